/- Printed functions that the law FnExactLockFail comes to, with their contracts; written by xprint.py, this session's program over the kit's print. -/
import Derived.Test.YtfkecldlhngjhaaCFnExactLockFaila
import Derived.Test.YtfkecldlhngjhaaCFnExactLockFailb
namespace Go.Proofs.Ytfkecldlhngjhaa.XA
open Go.RowKit Go.Proofs.YtfkecldlhngjhaaW.PrintWords Go.Proofs.YtfkecldlhngjhaaW.PrintLast Go.Proofs.YtfkecldlhngjhaaW.PrintMore
attribute [local go_sem] max2_int min2_int max_two min_two max_three min_three max_four min_four   -- for this text's walks alone
set_option linter.unusedVariables false
set_option linter.unusedSimpArgs false

/-! ### laws_FnExactLockFail: function 12 -/
theorem qbf12 {P Q : Prop} (h : P) (f : P → Q := by intro h_; (with_reducible repeat (first | refine blk_drewN ?_ _ | refine blk_drew ?_ | refine blk_alloc ?_ _)); exact h_) : Q := f h
theorem qrf12 {P Q : Prop} (h : P) (f : P → Q := by intro h_; (with_reducible repeat (first | apply Kd.R_alloc | apply Kd.R_drewN | apply Kd.R_drew)); exact h_) : Q := f h
theorem qff12 {P : Prop} (f : P := by (try simp only [List.map_toArray, List.map_cons, List.map_nil]); first | done | rfl | (simp only [List.length_drop, List.length_take]; rfl)) : P := f
theorem qsf12 {P : Prop} (f : P := by simp only [Act.put, List.setIfInBounds_toArray, List.set_cons_zero, List.set_cons_succ, i64_w, i32_w]; rfl) : P := f
def rlf12g : Bool → List Nat → List Bool
 | _, [] => []
 | b, n :: ns => List.replicate n b ++ rlf12g (!b) ns
abbrev rlf12 (ns : List Nat) : Array Bool := (rlf12g true ns).toArray
theorem qw0f12 {P Q : Prop} (h : P) (f : P → Q := by intro h_; repeat (first | (with_reducible first | exact h_ | apply below_alloc | apply pw_below_drewN | apply below_drew1) | exact h_)) : Q := f h
theorem qw1f12 {P Q P0 : Prop} (h : P) (h0 : P0) (f : P → P0 → Q := by intro h_ g0_; repeat (first | (with_reducible first | exact h_ | apply below_alloc | apply pw_below_drewN | apply below_drew1 | refine below_set ?_ g0_) | exact h_)) : Q := f h h0
theorem qw2f12 {P Q P0 P1 : Prop} (h : P) (h0 : P0) (h1 : P1) (f : P → P0 → P1 → Q := by intro h_ g0_ g1_; repeat (first | (with_reducible first | exact h_ | apply below_alloc | apply pw_below_drewN | apply below_drew1 | refine below_set ?_ g0_ | refine below_set ?_ g1_) | exact h_)) : Q := f h h0 h1
theorem qw3f12 {P Q P0 P1 P2 : Prop} (h : P) (h0 : P0) (h1 : P1) (h2 : P2) (f : P → P0 → P1 → P2 → Q := by intro h_ g0_ g1_ g2_; repeat (first | (with_reducible first | exact h_ | apply below_alloc | apply pw_below_drewN | apply below_drew1 | refine below_set ?_ g0_ | refine below_set ?_ g1_ | refine below_set ?_ g2_) | exact h_)) : Q := f h h0 h1 h2
theorem qw4f12 {P Q P0 P1 P2 P3 : Prop} (h : P) (h0 : P0) (h1 : P1) (h2 : P2) (h3 : P3) (f : P → P0 → P1 → P2 → P3 → Q := by intro h_ g0_ g1_ g2_ g3_; repeat (first | (with_reducible first | exact h_ | apply below_alloc | apply pw_below_drewN | apply below_drew1 | refine below_set ?_ g0_ | refine below_set ?_ g1_ | refine below_set ?_ g2_ | refine below_set ?_ g3_) | exact h_)) : Q := f h h0 h1 h2 h3
theorem qw5f12 {P Q P0 P1 P2 P3 P4 : Prop} (h : P) (h0 : P0) (h1 : P1) (h2 : P2) (h3 : P3) (h4 : P4) (f : P → P0 → P1 → P2 → P3 → P4 → Q := by intro h_ g0_ g1_ g2_ g3_ g4_; repeat (first | (with_reducible first | exact h_ | apply below_alloc | apply pw_below_drewN | apply below_drew1 | refine below_set ?_ g0_ | refine below_set ?_ g1_ | refine below_set ?_ g2_ | refine below_set ?_ g3_ | refine below_set ?_ g4_) | exact h_)) : Q := f h h0 h1 h2 h3 h4
theorem qw6f12 {P Q P0 P1 P2 P3 P4 P5 : Prop} (h : P) (h0 : P0) (h1 : P1) (h2 : P2) (h3 : P3) (h4 : P4) (h5 : P5) (f : P → P0 → P1 → P2 → P3 → P4 → P5 → Q := by intro h_ g0_ g1_ g2_ g3_ g4_ g5_; repeat (first | (with_reducible first | exact h_ | apply below_alloc | apply pw_below_drewN | apply below_drew1 | refine below_set ?_ g0_ | refine below_set ?_ g1_ | refine below_set ?_ g2_ | refine below_set ?_ g3_ | refine below_set ?_ g4_ | refine below_set ?_ g5_) | exact h_)) : Q := f h h0 h1 h2 h3 h4 h5
def laws_FnExactLockFail.f (k : Nat) (a0_0 : Int) (a0_1 : Int) (a0_2 : Int) (l1_0 : List Int) (a1_1 : Int) (a2 : Int) : Option (Bool) := (laws_szLock.f l1_0 a1_1 1048576).bind fun t103 => (if t103 < 0 then (some true) else ((laws_toLockRule.f a0_0 a0_1 a0_2).bind fun bt104 => ((laws_toLock.f k l1_0 a1_1).bind fun bt107 => ((spec_LockFail.f k bt104.1 bt104.2.1 bt104.2.2 bt107.1 bt107.2 a2).bind fun bt111 => ((laws_toLock.f k l1_0 a1_1).bind fun bt117 => ((laws_toLockRule.f a0_0 a0_1 a0_2).bind fun bt122 => ((impl_LockFail.f k bt122.1 bt122.2.1 bt122.2.2 bt117.1 bt117.2 a2).bind fun bt125 => ((laws_eqLock.f k bt125.1 bt125.2.1 bt111.1 bt111.2.1).bind fun t131 => (if t131 = true then (if (bt125.2.2 != bt111.2.2) = true then (some false) else ((laws_toLock.f k l1_0 a1_1).bind fun bt132 => ((laws_eqLock.f k bt117.1 bt117.2 bt132.1 bt132.2).bind fun t136 => (if t136 = true then ((laws_markLock.f k bt117.1 bt117.2 1).bind fun bt137 => (if bt137.1 < 0 then (some false) else ((laws_eqLock.f k bt125.1 bt125.2.1 bt111.1 bt111.2.1).bind fun t139 => (if t139 = true then ((laws_markLock.f k bt125.1 bt125.2.1 1).bind fun bt140 => ((laws_heldLock.f k bt140.2 bt125.2.1 1).bind fun t142 => (if t142 < 0 then (some false) else (if t142 = bt140.1 then ((laws_toLockRule.f a0_0 a0_1 a0_2).bind fun bt143 => ((laws_toLock.f k l1_0 a1_1).bind fun bt146 => ((impl_LockFail.f k bt143.1 bt143.2.1 bt143.2.2 bt146.1 bt146.2 a2).bind fun bt150 => ((laws_eqLock.f k bt150.1 bt150.2.1 bt111.1 bt111.2.1).bind fun t156 => (if t156 = true then (if (bt150.2.2 != bt111.2.2) = true then (some false) else ((laws_heldLock.f k bt140.2 bt125.2.1 1).bind fun t157 => (if t157 < 0 then (some false) else (if t157 = bt140.1 then (some true) else (some false))))) else (some false)))))) else (some false))))) else (some false))))) else (some false))))) else (some false))))))))))
theorem laws_FnExactLockFail.mono : ∀ a0 a1 a2 a3 a4 a5 k, LeO (laws_FnExactLockFail.f k a0 a1 a2 a3 a4 a5) (laws_FnExactLockFail.f (k + 1) a0 a1 a2 a3 a4 a5) := by
 intro a0 a1 a2 a3 a4 a5 k
 unfold laws_FnExactLockFail.f
 repeat' first
   | (with_reducible exact impl_LockFail.mono _ _ _ _ _ _ _)
   | (with_reducible exact laws_eqLock.mono _ _ _ _ _)
   | (with_reducible exact laws_heldLock.mono _ _ _ _)
   | (with_reducible exact laws_markLock.mono _ _ _ _)
   | (with_reducible exact laws_toLock.mono _ _ _)
   | (with_reducible exact spec_LockFail.mono _ _ _ _ _ _ _)
   | (with_reducible exact LeO.refl _)
   | (with_reducible exact LeO.none _)
   | (with_reducible refine LeO.ite ?_ ?_)
   | (with_reducible refine LeO.bind ?_ (fun _ => ?_))
   | exact impl_LockFail.mono _ _ _ _ _ _ _
   | exact laws_eqLock.mono _ _ _ _ _
   | exact laws_heldLock.mono _ _ _ _
   | exact laws_markLock.mono _ _ _ _
   | exact laws_toLock.mono _ _ _
   | exact spec_LockFail.mono _ _ _ _ _ _ _
   | exact LeO.none _
   | refine LeO.ite ?_ ?_
   | refine LeO.bind ?_ (fun _ => ?_)
def laws_FnExactLockFail.T5 : Bool × List (List Nat × List Nat) := (true, [([], []), ([0], [0]), ([], []), ([2, 1], [2]), ([], []), ([1, 3, 4, 3], [1, 3, 4]), ([5], [5]), ([6], [6]), ([6], [6]), ([], []), ([9, 7, 5, 0, 1, 2, 3, 4, 5, 6, 7, 9], [7, 9]), ([8, 10, 0, 1, 2, 3, 4, 5, 6, 7, 8, 9, 10], [8])])
def laws_FnExactLockFail.B5 : List Nat := [0, 1, 0, 7, 0, 31, 63, 127, 127, 0, 767, 2047]
theorem laws_FnExactLockFail.tab5 : rtab .any (opsOf Try.f12 5) = laws_FnExactLockFail.T5 := by kernel_rfl
theorem laws_FnExactLockFail.bits5 : waitsOk laws_FnExactLockFail.T5.2 laws_FnExactLockFail.B5 = true := by kernel_rfl
def laws_FnExactLockFail.T7 : Bool × List (List Nat × List Nat) := (true, [([], []), ([0], [0]), ([], []), ([], []), ([1, 2, 3, 1], [1, 2, 3]), ([4], [4]), ([5], [5]), ([5], [5]), ([], []), ([8, 6, 4, 0, 1, 2, 3, 4, 5, 6, 8], [6, 8]), ([7, 9, 0, 1, 2, 3, 4, 5, 6, 7, 8, 9], [7])])
def laws_FnExactLockFail.B7 : List Nat := [0, 1, 0, 0, 15, 31, 63, 63, 0, 383, 1023]
theorem laws_FnExactLockFail.tab7 : rtab .any (opsOf Try.f12 7) = laws_FnExactLockFail.T7 := by kernel_rfl
theorem laws_FnExactLockFail.bits7 : waitsOk laws_FnExactLockFail.T7.2 laws_FnExactLockFail.B7 = true := by kernel_rfl
def laws_FnExactLockFail.T24 : Bool × List (List Nat × List Nat) := (true, [([], []), ([0], [0]), ([], []), ([2, 1], [2]), ([], []), ([1, 3, 4, 3], [1, 3, 4]), ([5], [5]), ([6], [6]), ([6], [6]), ([], []), ([9, 7, 5, 0, 1, 2, 3, 4, 5, 6, 7, 9], [7, 9]), ([8, 10, 0, 1, 2, 3, 4, 5, 6, 7, 8, 9, 10], [8])])
def laws_FnExactLockFail.B24 : List Nat := [0, 1, 0, 7, 0, 31, 63, 127, 127, 0, 767, 2047]
theorem laws_FnExactLockFail.tab24 : rtab .any (opsOf Try.f12 24) = laws_FnExactLockFail.T24 := by kernel_rfl
theorem laws_FnExactLockFail.bits24 : waitsOk laws_FnExactLockFail.T24.2 laws_FnExactLockFail.B24 = true := by kernel_rfl
set_option maxHeartbeats 8000000 in
set_option maxRecDepth 100000 in
theorem laws_FnExactLockFail.calls (k : Nat) (a0_0 : Int) (a0_1 : Int) (a0_2 : Int) (A1_0 : Option Addr) (c1_0 : Nat) (l1_0 : List Int) (a1_1 : Int) (a2 : Int) (r : Bool) (w : World) (hr1_0 : Kd.C (Kd.int .i64) w A1_0 l1_0.length l1_0) (hc1_0 : l1_0.length ≤ c1_0) (hrt : r = true) (h : laws_FnExactLockFail.f k a0_0 a0_1 a0_2 l1_0 a1_1 a2 = some r) :
  Calls Try.prog 12 #[.agg #[.int .i64 a0_0, .int .i64 a0_1, .int .i64 a0_2], .agg #[.slice A1_0 l1_0.length c1_0, .int .i64 a1_1], .int .i64 a2] w fun e w' => e = .returned (.bool r) ∧ Below w.heap.size w w' := by
 have hu44 := Try.underlying44
 have hu27 := Try.underlying27
 have hu30 := Try.underlying30
 have HR1_0 := Aside0.mk hr1_0
 have HC1_0 := Aside0.mk hc1_0
 clear hr1_0 hc1_0
 have HB := Aside0.mk (Below.refl w.heap.size w)
 have H : ((laws_szLock.f l1_0 a1_1 1048576).bind fun t103 => (if t103 < 0 then (some true) else ((laws_toLockRule.f a0_0 a0_1 a0_2).bind fun bt104 => ((laws_toLock.f k l1_0 a1_1).bind fun bt107 => ((spec_LockFail.f k bt104.1 bt104.2.1 bt104.2.2 bt107.1 bt107.2 a2).bind fun bt111 => ((laws_toLock.f k l1_0 a1_1).bind fun bt117 => ((laws_toLockRule.f a0_0 a0_1 a0_2).bind fun bt122 => ((impl_LockFail.f k bt122.1 bt122.2.1 bt122.2.2 bt117.1 bt117.2 a2).bind fun bt125 => ((laws_eqLock.f k bt125.1 bt125.2.1 bt111.1 bt111.2.1).bind fun t131 => (if t131 = true then (if (bt125.2.2 != bt111.2.2) = true then (some false) else ((laws_toLock.f k l1_0 a1_1).bind fun bt132 => ((laws_eqLock.f k bt117.1 bt117.2 bt132.1 bt132.2).bind fun t136 => (if t136 = true then ((laws_markLock.f k bt117.1 bt117.2 1).bind fun bt137 => (if bt137.1 < 0 then (some false) else ((laws_eqLock.f k bt125.1 bt125.2.1 bt111.1 bt111.2.1).bind fun t139 => (if t139 = true then ((laws_markLock.f k bt125.1 bt125.2.1 1).bind fun bt140 => ((laws_heldLock.f k bt140.2 bt125.2.1 1).bind fun t142 => (if t142 < 0 then (some false) else (if t142 = bt140.1 then ((laws_toLockRule.f a0_0 a0_1 a0_2).bind fun bt143 => ((laws_toLock.f k l1_0 a1_1).bind fun bt146 => ((impl_LockFail.f k bt143.1 bt143.2.1 bt143.2.2 bt146.1 bt146.2 a2).bind fun bt150 => ((laws_eqLock.f k bt150.1 bt150.2.1 bt111.1 bt111.2.1).bind fun t156 => (if t156 = true then (if (bt150.2.2 != bt111.2.2) = true then (some false) else ((laws_heldLock.f k bt140.2 bt125.2.1 1).bind fun t157 => (if t157 < 0 then (some false) else (if t157 = bt140.1 then (some true) else (some false))))) else (some false)))))) else (some false))))) else (some false))))) else (some false))))) else (some false))))))))))) = some r := h
 clear h
 replace H := Option.bind_eq_some_iff.mp H
 obtain ⟨t103, A40, H⟩ := H
 replace H : (if t103 < 0 then (some true) else ((laws_toLockRule.f a0_0 a0_1 a0_2).bind fun bt104 => ((laws_toLock.f k l1_0 a1_1).bind fun bt107 => ((spec_LockFail.f k bt104.1 bt104.2.1 bt104.2.2 bt107.1 bt107.2 a2).bind fun bt111 => ((laws_toLock.f k l1_0 a1_1).bind fun bt117 => ((laws_toLockRule.f a0_0 a0_1 a0_2).bind fun bt122 => ((impl_LockFail.f k bt122.1 bt122.2.1 bt122.2.2 bt117.1 bt117.2 a2).bind fun bt125 => ((laws_eqLock.f k bt125.1 bt125.2.1 bt111.1 bt111.2.1).bind fun t131 => (if t131 = true then (if (bt125.2.2 != bt111.2.2) = true then (some false) else ((laws_toLock.f k l1_0 a1_1).bind fun bt132 => ((laws_eqLock.f k bt117.1 bt117.2 bt132.1 bt132.2).bind fun t136 => (if t136 = true then ((laws_markLock.f k bt117.1 bt117.2 1).bind fun bt137 => (if bt137.1 < 0 then (some false) else ((laws_eqLock.f k bt125.1 bt125.2.1 bt111.1 bt111.2.1).bind fun t139 => (if t139 = true then ((laws_markLock.f k bt125.1 bt125.2.1 1).bind fun bt140 => ((laws_heldLock.f k bt140.2 bt125.2.1 1).bind fun t142 => (if t142 < 0 then (some false) else (if t142 = bt140.1 then ((laws_toLockRule.f a0_0 a0_1 a0_2).bind fun bt143 => ((laws_toLock.f k l1_0 a1_1).bind fun bt146 => ((impl_LockFail.f k bt143.1 bt143.2.1 bt143.2.2 bt146.1 bt146.2 a2).bind fun bt150 => ((laws_eqLock.f k bt150.1 bt150.2.1 bt111.1 bt111.2.1).bind fun t156 => (if t156 = true then (if (bt150.2.2 != bt111.2.2) = true then (some false) else ((laws_heldLock.f k bt140.2 bt125.2.1 1).bind fun t157 => (if t157 < 0 then (some false) else (if t157 = bt140.1 then (some true) else (some false))))) else (some false)))))) else (some false))))) else (some false))))) else (some false))))) else (some false)))))))))) = some r := H
 have A4 := Aside0.mk A40
 clear A40
 by_cases c5 : t103 < 0
 ·
  rw [if_pos c5] at H
  have c5b0 : decide (t103 < 0) = true := decide_eq_true c5
  clear c5
  obtain rfl := Option.some.inj H
  go_enter Try.func12, Try.ntmps12
  go_wp2_with (first | ((with_reducible refine gate_dst (N := 3) rfl ?_); refine box_event ?hg (N := 3) ?hd (cs := #[.int .i64 a0_0, .int .i64 a0_1, .int .i64 a0_2]) (t := 44) ?hr ?_; (case hd => rfl); (case hg => rfl); (case hr => first | (go_simp; done) | (go_simp; rfl)); intro gb101 hg w6 hbox hb; have n0_ := Aside0.mk (below_step (qw0f12 HB.out) hb); have n1_ := Aside0.mk (hbox); have n2_ := Aside0.mk ((by rw [hg]; exact (below_size (qw0f12 HB.out)) : w.heap.size ≤ gb101)); have n3_ := Aside0.mk ((by rw [hg]; exact (below_size (qw0f12 HB.out)) : w.heap.size ≤ gb101)); clear HB; have HB := n0_; have BK101 := n1_; have GW101 := n2_; have GE101 := n3_; clear n0_ n1_ n2_ n3_; clear hb hbox hg) | ((with_reducible refine gate_dst (N := 4) rfl ?_); refine box_event ?hg (N := 4) ?hd (cs := #[.slice A1_0 l1_0.length c1_0, .int .i64 a1_1]) (t := 27) ?hr ?_; (case hd => rfl); (case hg => rfl); (case hr => first | (go_simp; done) | (go_simp; rfl)); intro gb102 hg w7 hbox hb; have n0_ := Aside0.mk (below_step (qw0f12 HB.out) hb); have n1_ := Aside0.mk (hbox); have n2_ := Aside0.mk ((by rw [hg]; exact (below_size (qw0f12 HB.out)) : w.heap.size ≤ gb102)); have n3_ := Aside0.mk ((by rw [hg]; exact (below_size (qw0f12 HB.out)) : w.heap.size ≤ gb102)); clear HB; have HB := n0_; have BK102 := n1_; have GW102 := n2_; have GE102 := n3_; clear n0_ n1_ n2_ n3_; clear hb hbox hg; have hcz8_0 : w7.cell? ⟨gb102, 0, none⟩ = some (.slice A1_0 l1_0.length c1_0) := (blk_cell BK102.out 0).trans rfl; have hcz8_1 : w7.cell? ⟨gb102, 1, none⟩ = some (.int .i64 a1_1) := (blk_cell BK102.out 1).trans rfl; have hfz8_0 := blk_frozen BK102.out 0; have hfz8_1 := blk_frozen BK102.out 1) | ((with_reducible refine gate_callee (f := 19) rfl ?_); refine goesL_ (some 20) rfl rfl Try.func19 (by kernel_rfl) rfl #[.agg #[.slice A1_0 l1_0.length c1_0, .int .i64 a1_1], .int .i64 1048576] rfl qff12 ?_; (with_reducible refine (laws_szLock.calls _ _ l1_0 a1_1 1048576 t103 _ ?side1 ?side2 A4.out).mono ?_); (case side1 => repeat (first | exact (Kd.C_below HR1_0.out HB.out) | (with_reducible refine Kd.C_alloc ?_ _) | (with_reducible refine Kd.C_drewN ?_ _) | (with_reducible refine Kd.C_drew ?_))); (case side2 => exact HC1_0.out); rintro e w9 ⟨rfl, hb⟩; refine ⟨_, rfl, ?_⟩; have n0_ := Aside0.mk (below_step (qw0f12 HB.out) hb); clear HB; have HB := n0_; clear n0_; (try clear hb); (try clear hb2); (try clear hk); (try clear hi)))
  go_ret
  exact ⟨by first | rfl | (simp [errW_none, errW_some] <;> rfl) | (simp [*, errW_none, errW_some] <;> rfl), by repeat (first | (with_reducible first | exact HB.out | apply below_alloc | apply pw_below_drewN | apply below_drew1) | exact HB.out)⟩
 ·
  rw [if_neg c5] at H
  have c5b0 : decide (t103 < 0) = false := decide_eq_false c5
  clear c5
  replace H := Option.bind_eq_some_iff.mp H
  obtain ⟨⟨t104, t105, t106⟩, A100, H⟩ := H
  replace H : ((laws_toLock.f k l1_0 a1_1).bind fun bt107 => ((spec_LockFail.f k t104 t105 t106 bt107.1 bt107.2 a2).bind fun bt111 => ((laws_toLock.f k l1_0 a1_1).bind fun bt117 => ((laws_toLockRule.f a0_0 a0_1 a0_2).bind fun bt122 => ((impl_LockFail.f k bt122.1 bt122.2.1 bt122.2.2 bt117.1 bt117.2 a2).bind fun bt125 => ((laws_eqLock.f k bt125.1 bt125.2.1 bt111.1 bt111.2.1).bind fun t131 => (if t131 = true then (if (bt125.2.2 != bt111.2.2) = true then (some false) else ((laws_toLock.f k l1_0 a1_1).bind fun bt132 => ((laws_eqLock.f k bt117.1 bt117.2 bt132.1 bt132.2).bind fun t136 => (if t136 = true then ((laws_markLock.f k bt117.1 bt117.2 1).bind fun bt137 => (if bt137.1 < 0 then (some false) else ((laws_eqLock.f k bt125.1 bt125.2.1 bt111.1 bt111.2.1).bind fun t139 => (if t139 = true then ((laws_markLock.f k bt125.1 bt125.2.1 1).bind fun bt140 => ((laws_heldLock.f k bt140.2 bt125.2.1 1).bind fun t142 => (if t142 < 0 then (some false) else (if t142 = bt140.1 then ((laws_toLockRule.f a0_0 a0_1 a0_2).bind fun bt143 => ((laws_toLock.f k l1_0 a1_1).bind fun bt146 => ((impl_LockFail.f k bt143.1 bt143.2.1 bt143.2.2 bt146.1 bt146.2 a2).bind fun bt150 => ((laws_eqLock.f k bt150.1 bt150.2.1 bt111.1 bt111.2.1).bind fun t156 => (if t156 = true then (if (bt150.2.2 != bt111.2.2) = true then (some false) else ((laws_heldLock.f k bt140.2 bt125.2.1 1).bind fun t157 => (if t157 < 0 then (some false) else (if t157 = bt140.1 then (some true) else (some false))))) else (some false)))))) else (some false))))) else (some false))))) else (some false))))) else (some false)))))))) = some r := H
  have A10 := Aside0.mk A100
  clear A100
  replace H := Option.bind_eq_some_iff.mp H
  obtain ⟨⟨t107, t110⟩, A110, H⟩ := H
  replace H : ((spec_LockFail.f k t104 t105 t106 t107 t110 a2).bind fun bt111 => ((laws_toLock.f k l1_0 a1_1).bind fun bt117 => ((laws_toLockRule.f a0_0 a0_1 a0_2).bind fun bt122 => ((impl_LockFail.f k bt122.1 bt122.2.1 bt122.2.2 bt117.1 bt117.2 a2).bind fun bt125 => ((laws_eqLock.f k bt125.1 bt125.2.1 bt111.1 bt111.2.1).bind fun t131 => (if t131 = true then (if (bt125.2.2 != bt111.2.2) = true then (some false) else ((laws_toLock.f k l1_0 a1_1).bind fun bt132 => ((laws_eqLock.f k bt117.1 bt117.2 bt132.1 bt132.2).bind fun t136 => (if t136 = true then ((laws_markLock.f k bt117.1 bt117.2 1).bind fun bt137 => (if bt137.1 < 0 then (some false) else ((laws_eqLock.f k bt125.1 bt125.2.1 bt111.1 bt111.2.1).bind fun t139 => (if t139 = true then ((laws_markLock.f k bt125.1 bt125.2.1 1).bind fun bt140 => ((laws_heldLock.f k bt140.2 bt125.2.1 1).bind fun t142 => (if t142 < 0 then (some false) else (if t142 = bt140.1 then ((laws_toLockRule.f a0_0 a0_1 a0_2).bind fun bt143 => ((laws_toLock.f k l1_0 a1_1).bind fun bt146 => ((impl_LockFail.f k bt143.1 bt143.2.1 bt143.2.2 bt146.1 bt146.2 a2).bind fun bt150 => ((laws_eqLock.f k bt150.1 bt150.2.1 bt111.1 bt111.2.1).bind fun t156 => (if t156 = true then (if (bt150.2.2 != bt111.2.2) = true then (some false) else ((laws_heldLock.f k bt140.2 bt125.2.1 1).bind fun t157 => (if t157 < 0 then (some false) else (if t157 = bt140.1 then (some true) else (some false))))) else (some false)))))) else (some false))))) else (some false))))) else (some false))))) else (some false))))))) = some r := H
  have A11 := Aside0.mk A110
  clear A110
  replace H := Option.bind_eq_some_iff.mp H
  obtain ⟨⟨t111, t114, t115⟩, A120, H⟩ := H
  replace H : ((laws_toLock.f k l1_0 a1_1).bind fun bt117 => ((laws_toLockRule.f a0_0 a0_1 a0_2).bind fun bt122 => ((impl_LockFail.f k bt122.1 bt122.2.1 bt122.2.2 bt117.1 bt117.2 a2).bind fun bt125 => ((laws_eqLock.f k bt125.1 bt125.2.1 t111 t114).bind fun t131 => (if t131 = true then (if (bt125.2.2 != t115) = true then (some false) else ((laws_toLock.f k l1_0 a1_1).bind fun bt132 => ((laws_eqLock.f k bt117.1 bt117.2 bt132.1 bt132.2).bind fun t136 => (if t136 = true then ((laws_markLock.f k bt117.1 bt117.2 1).bind fun bt137 => (if bt137.1 < 0 then (some false) else ((laws_eqLock.f k bt125.1 bt125.2.1 t111 t114).bind fun t139 => (if t139 = true then ((laws_markLock.f k bt125.1 bt125.2.1 1).bind fun bt140 => ((laws_heldLock.f k bt140.2 bt125.2.1 1).bind fun t142 => (if t142 < 0 then (some false) else (if t142 = bt140.1 then ((laws_toLockRule.f a0_0 a0_1 a0_2).bind fun bt143 => ((laws_toLock.f k l1_0 a1_1).bind fun bt146 => ((impl_LockFail.f k bt143.1 bt143.2.1 bt143.2.2 bt146.1 bt146.2 a2).bind fun bt150 => ((laws_eqLock.f k bt150.1 bt150.2.1 t111 t114).bind fun t156 => (if t156 = true then (if (bt150.2.2 != t115) = true then (some false) else ((laws_heldLock.f k bt140.2 bt125.2.1 1).bind fun t157 => (if t157 < 0 then (some false) else (if t157 = bt140.1 then (some true) else (some false))))) else (some false)))))) else (some false))))) else (some false))))) else (some false))))) else (some false)))))) = some r := H
  have A12 := Aside0.mk A120
  clear A120
  replace H := Option.bind_eq_some_iff.mp H
  obtain ⟨⟨t117, t120⟩, A130, H⟩ := H
  replace H : ((laws_toLockRule.f a0_0 a0_1 a0_2).bind fun bt122 => ((impl_LockFail.f k bt122.1 bt122.2.1 bt122.2.2 t117 t120 a2).bind fun bt125 => ((laws_eqLock.f k bt125.1 bt125.2.1 t111 t114).bind fun t131 => (if t131 = true then (if (bt125.2.2 != t115) = true then (some false) else ((laws_toLock.f k l1_0 a1_1).bind fun bt132 => ((laws_eqLock.f k t117 t120 bt132.1 bt132.2).bind fun t136 => (if t136 = true then ((laws_markLock.f k t117 t120 1).bind fun bt137 => (if bt137.1 < 0 then (some false) else ((laws_eqLock.f k bt125.1 bt125.2.1 t111 t114).bind fun t139 => (if t139 = true then ((laws_markLock.f k bt125.1 bt125.2.1 1).bind fun bt140 => ((laws_heldLock.f k bt140.2 bt125.2.1 1).bind fun t142 => (if t142 < 0 then (some false) else (if t142 = bt140.1 then ((laws_toLockRule.f a0_0 a0_1 a0_2).bind fun bt143 => ((laws_toLock.f k l1_0 a1_1).bind fun bt146 => ((impl_LockFail.f k bt143.1 bt143.2.1 bt143.2.2 bt146.1 bt146.2 a2).bind fun bt150 => ((laws_eqLock.f k bt150.1 bt150.2.1 t111 t114).bind fun t156 => (if t156 = true then (if (bt150.2.2 != t115) = true then (some false) else ((laws_heldLock.f k bt140.2 bt125.2.1 1).bind fun t157 => (if t157 < 0 then (some false) else (if t157 = bt140.1 then (some true) else (some false))))) else (some false)))))) else (some false))))) else (some false))))) else (some false))))) else (some false))))) = some r := H
  have A13 := Aside0.mk A130
  clear A130
  replace H := Option.bind_eq_some_iff.mp H
  obtain ⟨⟨t122, t123, t124⟩, A140, H⟩ := H
  replace H : ((impl_LockFail.f k t122 t123 t124 t117 t120 a2).bind fun bt125 => ((laws_eqLock.f k bt125.1 bt125.2.1 t111 t114).bind fun t131 => (if t131 = true then (if (bt125.2.2 != t115) = true then (some false) else ((laws_toLock.f k l1_0 a1_1).bind fun bt132 => ((laws_eqLock.f k t117 t120 bt132.1 bt132.2).bind fun t136 => (if t136 = true then ((laws_markLock.f k t117 t120 1).bind fun bt137 => (if bt137.1 < 0 then (some false) else ((laws_eqLock.f k bt125.1 bt125.2.1 t111 t114).bind fun t139 => (if t139 = true then ((laws_markLock.f k bt125.1 bt125.2.1 1).bind fun bt140 => ((laws_heldLock.f k bt140.2 bt125.2.1 1).bind fun t142 => (if t142 < 0 then (some false) else (if t142 = bt140.1 then ((laws_toLockRule.f a0_0 a0_1 a0_2).bind fun bt143 => ((laws_toLock.f k l1_0 a1_1).bind fun bt146 => ((impl_LockFail.f k bt143.1 bt143.2.1 bt143.2.2 bt146.1 bt146.2 a2).bind fun bt150 => ((laws_eqLock.f k bt150.1 bt150.2.1 t111 t114).bind fun t156 => (if t156 = true then (if (bt150.2.2 != t115) = true then (some false) else ((laws_heldLock.f k bt140.2 bt125.2.1 1).bind fun t157 => (if t157 < 0 then (some false) else (if t157 = bt140.1 then (some true) else (some false))))) else (some false)))))) else (some false))))) else (some false))))) else (some false))))) else (some false)))) = some r := H
  have A14 := Aside0.mk A140
  clear A140
  replace H := Option.bind_eq_some_iff.mp H
  obtain ⟨⟨t125, t128, t129⟩, A150, H⟩ := H
  replace H : ((laws_eqLock.f k t125 t128 t111 t114).bind fun t131 => (if t131 = true then (if (t129 != t115) = true then (some false) else ((laws_toLock.f k l1_0 a1_1).bind fun bt132 => ((laws_eqLock.f k t117 t120 bt132.1 bt132.2).bind fun t136 => (if t136 = true then ((laws_markLock.f k t117 t120 1).bind fun bt137 => (if bt137.1 < 0 then (some false) else ((laws_eqLock.f k t125 t128 t111 t114).bind fun t139 => (if t139 = true then ((laws_markLock.f k t125 t128 1).bind fun bt140 => ((laws_heldLock.f k bt140.2 t128 1).bind fun t142 => (if t142 < 0 then (some false) else (if t142 = bt140.1 then ((laws_toLockRule.f a0_0 a0_1 a0_2).bind fun bt143 => ((laws_toLock.f k l1_0 a1_1).bind fun bt146 => ((impl_LockFail.f k bt143.1 bt143.2.1 bt143.2.2 bt146.1 bt146.2 a2).bind fun bt150 => ((laws_eqLock.f k bt150.1 bt150.2.1 t111 t114).bind fun t156 => (if t156 = true then (if (bt150.2.2 != t115) = true then (some false) else ((laws_heldLock.f k bt140.2 t128 1).bind fun t157 => (if t157 < 0 then (some false) else (if t157 = bt140.1 then (some true) else (some false))))) else (some false)))))) else (some false))))) else (some false))))) else (some false))))) else (some false))) = some r := H
  have A15 := Aside0.mk A150
  clear A150
  replace H := Option.bind_eq_some_iff.mp H
  obtain ⟨t131, A160, H⟩ := H
  replace H : (if t131 = true then (if (t129 != t115) = true then (some false) else ((laws_toLock.f k l1_0 a1_1).bind fun bt132 => ((laws_eqLock.f k t117 t120 bt132.1 bt132.2).bind fun t136 => (if t136 = true then ((laws_markLock.f k t117 t120 1).bind fun bt137 => (if bt137.1 < 0 then (some false) else ((laws_eqLock.f k t125 t128 t111 t114).bind fun t139 => (if t139 = true then ((laws_markLock.f k t125 t128 1).bind fun bt140 => ((laws_heldLock.f k bt140.2 t128 1).bind fun t142 => (if t142 < 0 then (some false) else (if t142 = bt140.1 then ((laws_toLockRule.f a0_0 a0_1 a0_2).bind fun bt143 => ((laws_toLock.f k l1_0 a1_1).bind fun bt146 => ((impl_LockFail.f k bt143.1 bt143.2.1 bt143.2.2 bt146.1 bt146.2 a2).bind fun bt150 => ((laws_eqLock.f k bt150.1 bt150.2.1 t111 t114).bind fun t156 => (if t156 = true then (if (bt150.2.2 != t115) = true then (some false) else ((laws_heldLock.f k bt140.2 t128 1).bind fun t157 => (if t157 < 0 then (some false) else (if t157 = bt140.1 then (some true) else (some false))))) else (some false)))))) else (some false))))) else (some false))))) else (some false))))) else (some false)) = some r := H
  have A16 := Aside0.mk A160
  clear A160
  by_cases c17 : t131 = true
  ·
   subst c17
   have H1 : (if (t129 != t115) = true then (some false) else ((laws_toLock.f k l1_0 a1_1).bind fun bt132 => ((laws_eqLock.f k t117 t120 bt132.1 bt132.2).bind fun t136 => (if t136 = true then ((laws_markLock.f k t117 t120 1).bind fun bt137 => (if bt137.1 < 0 then (some false) else ((laws_eqLock.f k t125 t128 t111 t114).bind fun t139 => (if t139 = true then ((laws_markLock.f k t125 t128 1).bind fun bt140 => ((laws_heldLock.f k bt140.2 t128 1).bind fun t142 => (if t142 < 0 then (some false) else (if t142 = bt140.1 then ((laws_toLockRule.f a0_0 a0_1 a0_2).bind fun bt143 => ((laws_toLock.f k l1_0 a1_1).bind fun bt146 => ((impl_LockFail.f k bt143.1 bt143.2.1 bt143.2.2 bt146.1 bt146.2 a2).bind fun bt150 => ((laws_eqLock.f k bt150.1 bt150.2.1 t111 t114).bind fun t156 => (if t156 = true then (if (bt150.2.2 != t115) = true then (some false) else ((laws_heldLock.f k bt140.2 t128 1).bind fun t157 => (if t157 < 0 then (some false) else (if t157 = bt140.1 then (some true) else (some false))))) else (some false)))))) else (some false))))) else (some false))))) else (some false))))) = some r := by rw [if_pos rfl] at H; exact H
   clear H
   have H := H1
   clear H1
   by_cases c18 : (t129 != t115) = true
   ·
    rw [if_pos c18] at H
    have c18b0 : (t129 != t115) = true := c18
    (try (have c18b1 : decide (t129 = t115) = false := by simpa using c18))
    (try (have c18b2 : (t129 == t115) = false := by simpa using c18))
    (try (have c18b3 : ¬ (t129 = t115) := by simpa using c18))
    clear c18
    exact absurd ((Option.some.inj H).trans hrt) (by simp)
   ·
    rw [if_neg c18] at H
    have c18b0 : (t129 != t115) = false := by simpa using c18
    (try (have c18b1 : decide (t129 = t115) = true := by simpa using c18))
    (try (have c18b2 : (t129 == t115) = true := by simpa using c18))
    clear c18
    replace H := Option.bind_eq_some_iff.mp H
    obtain ⟨⟨t132, t135⟩, A190, H⟩ := H
    replace H : ((laws_eqLock.f k t117 t120 t132 t135).bind fun t136 => (if t136 = true then ((laws_markLock.f k t117 t120 1).bind fun bt137 => (if bt137.1 < 0 then (some false) else ((laws_eqLock.f k t125 t128 t111 t114).bind fun t139 => (if t139 = true then ((laws_markLock.f k t125 t128 1).bind fun bt140 => ((laws_heldLock.f k bt140.2 t128 1).bind fun t142 => (if t142 < 0 then (some false) else (if t142 = bt140.1 then ((laws_toLockRule.f a0_0 a0_1 a0_2).bind fun bt143 => ((laws_toLock.f k l1_0 a1_1).bind fun bt146 => ((impl_LockFail.f k bt143.1 bt143.2.1 bt143.2.2 bt146.1 bt146.2 a2).bind fun bt150 => ((laws_eqLock.f k bt150.1 bt150.2.1 t111 t114).bind fun t156 => (if t156 = true then (if (bt150.2.2 != t115) = true then (some false) else ((laws_heldLock.f k bt140.2 t128 1).bind fun t157 => (if t157 < 0 then (some false) else (if t157 = bt140.1 then (some true) else (some false))))) else (some false)))))) else (some false))))) else (some false))))) else (some false))) = some r := H
    have A19 := Aside0.mk A190
    clear A190
    replace H := Option.bind_eq_some_iff.mp H
    obtain ⟨t136, A200, H⟩ := H
    replace H : (if t136 = true then ((laws_markLock.f k t117 t120 1).bind fun bt137 => (if bt137.1 < 0 then (some false) else ((laws_eqLock.f k t125 t128 t111 t114).bind fun t139 => (if t139 = true then ((laws_markLock.f k t125 t128 1).bind fun bt140 => ((laws_heldLock.f k bt140.2 t128 1).bind fun t142 => (if t142 < 0 then (some false) else (if t142 = bt140.1 then ((laws_toLockRule.f a0_0 a0_1 a0_2).bind fun bt143 => ((laws_toLock.f k l1_0 a1_1).bind fun bt146 => ((impl_LockFail.f k bt143.1 bt143.2.1 bt143.2.2 bt146.1 bt146.2 a2).bind fun bt150 => ((laws_eqLock.f k bt150.1 bt150.2.1 t111 t114).bind fun t156 => (if t156 = true then (if (bt150.2.2 != t115) = true then (some false) else ((laws_heldLock.f k bt140.2 t128 1).bind fun t157 => (if t157 < 0 then (some false) else (if t157 = bt140.1 then (some true) else (some false))))) else (some false)))))) else (some false))))) else (some false))))) else (some false)) = some r := H
    have A20 := Aside0.mk A200
    clear A200
    by_cases c21 : t136 = true
    ·
     subst c21
     have H1 : ((laws_markLock.f k t117 t120 1).bind fun bt137 => (if bt137.1 < 0 then (some false) else ((laws_eqLock.f k t125 t128 t111 t114).bind fun t139 => (if t139 = true then ((laws_markLock.f k t125 t128 1).bind fun bt140 => ((laws_heldLock.f k bt140.2 t128 1).bind fun t142 => (if t142 < 0 then (some false) else (if t142 = bt140.1 then ((laws_toLockRule.f a0_0 a0_1 a0_2).bind fun bt143 => ((laws_toLock.f k l1_0 a1_1).bind fun bt146 => ((impl_LockFail.f k bt143.1 bt143.2.1 bt143.2.2 bt146.1 bt146.2 a2).bind fun bt150 => ((laws_eqLock.f k bt150.1 bt150.2.1 t111 t114).bind fun t156 => (if t156 = true then (if (bt150.2.2 != t115) = true then (some false) else ((laws_heldLock.f k bt140.2 t128 1).bind fun t157 => (if t157 < 0 then (some false) else (if t157 = bt140.1 then (some true) else (some false))))) else (some false)))))) else (some false))))) else (some false))))) = some r := by rw [if_pos rfl] at H; exact H
     clear H
     have H := H1
     clear H1
     replace H := Option.bind_eq_some_iff.mp H
     obtain ⟨⟨t137, t138⟩, A220, H⟩ := H
     replace H : (if t137 < 0 then (some false) else ((laws_eqLock.f k t125 t128 t111 t114).bind fun t139 => (if t139 = true then ((laws_markLock.f k t125 t128 1).bind fun bt140 => ((laws_heldLock.f k bt140.2 t128 1).bind fun t142 => (if t142 < 0 then (some false) else (if t142 = bt140.1 then ((laws_toLockRule.f a0_0 a0_1 a0_2).bind fun bt143 => ((laws_toLock.f k l1_0 a1_1).bind fun bt146 => ((impl_LockFail.f k bt143.1 bt143.2.1 bt143.2.2 bt146.1 bt146.2 a2).bind fun bt150 => ((laws_eqLock.f k bt150.1 bt150.2.1 t111 t114).bind fun t156 => (if t156 = true then (if (bt150.2.2 != t115) = true then (some false) else ((laws_heldLock.f k bt140.2 t128 1).bind fun t157 => (if t157 < 0 then (some false) else (if t157 = bt140.1 then (some true) else (some false))))) else (some false)))))) else (some false))))) else (some false)))) = some r := H
     have A22 := Aside0.mk A220
     clear A220
     by_cases c23 : t137 < 0
     ·
      rw [if_pos c23] at H
      have c23b0 : decide (t137 < 0) = true := decide_eq_true c23
      clear c23
      exact absurd ((Option.some.inj H).trans hrt) (by simp)
     ·
      rw [if_neg c23] at H
      have c23b0 : decide (t137 < 0) = false := decide_eq_false c23
      clear c23
      replace H := Option.bind_eq_some_iff.mp H
      obtain ⟨t139, A240, H⟩ := H
      replace H : (if t139 = true then ((laws_markLock.f k t125 t128 1).bind fun bt140 => ((laws_heldLock.f k bt140.2 t128 1).bind fun t142 => (if t142 < 0 then (some false) else (if t142 = bt140.1 then ((laws_toLockRule.f a0_0 a0_1 a0_2).bind fun bt143 => ((laws_toLock.f k l1_0 a1_1).bind fun bt146 => ((impl_LockFail.f k bt143.1 bt143.2.1 bt143.2.2 bt146.1 bt146.2 a2).bind fun bt150 => ((laws_eqLock.f k bt150.1 bt150.2.1 t111 t114).bind fun t156 => (if t156 = true then (if (bt150.2.2 != t115) = true then (some false) else ((laws_heldLock.f k bt140.2 t128 1).bind fun t157 => (if t157 < 0 then (some false) else (if t157 = bt140.1 then (some true) else (some false))))) else (some false)))))) else (some false))))) else (some false)) = some r := H
      have A24 := Aside0.mk A240
      clear A240
      by_cases c25 : t139 = true
      ·
       subst c25
       have H1 : ((laws_markLock.f k t125 t128 1).bind fun bt140 => ((laws_heldLock.f k bt140.2 t128 1).bind fun t142 => (if t142 < 0 then (some false) else (if t142 = bt140.1 then ((laws_toLockRule.f a0_0 a0_1 a0_2).bind fun bt143 => ((laws_toLock.f k l1_0 a1_1).bind fun bt146 => ((impl_LockFail.f k bt143.1 bt143.2.1 bt143.2.2 bt146.1 bt146.2 a2).bind fun bt150 => ((laws_eqLock.f k bt150.1 bt150.2.1 t111 t114).bind fun t156 => (if t156 = true then (if (bt150.2.2 != t115) = true then (some false) else ((laws_heldLock.f k bt140.2 t128 1).bind fun t157 => (if t157 < 0 then (some false) else (if t157 = bt140.1 then (some true) else (some false))))) else (some false)))))) else (some false))))) = some r := by rw [if_pos rfl] at H; exact H
       clear H
       have H := H1
       clear H1
       replace H := Option.bind_eq_some_iff.mp H
       obtain ⟨⟨t140, t141⟩, A260, H⟩ := H
       replace H : ((laws_heldLock.f k t141 t128 1).bind fun t142 => (if t142 < 0 then (some false) else (if t142 = t140 then ((laws_toLockRule.f a0_0 a0_1 a0_2).bind fun bt143 => ((laws_toLock.f k l1_0 a1_1).bind fun bt146 => ((impl_LockFail.f k bt143.1 bt143.2.1 bt143.2.2 bt146.1 bt146.2 a2).bind fun bt150 => ((laws_eqLock.f k bt150.1 bt150.2.1 t111 t114).bind fun t156 => (if t156 = true then (if (bt150.2.2 != t115) = true then (some false) else ((laws_heldLock.f k t141 t128 1).bind fun t157 => (if t157 < 0 then (some false) else (if t157 = t140 then (some true) else (some false))))) else (some false)))))) else (some false)))) = some r := H
       have A26 := Aside0.mk A260
       clear A260
       replace H := Option.bind_eq_some_iff.mp H
       obtain ⟨t142, A270, H⟩ := H
       replace H : (if t142 < 0 then (some false) else (if t142 = t140 then ((laws_toLockRule.f a0_0 a0_1 a0_2).bind fun bt143 => ((laws_toLock.f k l1_0 a1_1).bind fun bt146 => ((impl_LockFail.f k bt143.1 bt143.2.1 bt143.2.2 bt146.1 bt146.2 a2).bind fun bt150 => ((laws_eqLock.f k bt150.1 bt150.2.1 t111 t114).bind fun t156 => (if t156 = true then (if (bt150.2.2 != t115) = true then (some false) else ((laws_heldLock.f k t141 t128 1).bind fun t157 => (if t157 < 0 then (some false) else (if t157 = t140 then (some true) else (some false))))) else (some false)))))) else (some false))) = some r := H
       have A27 := Aside0.mk A270
       clear A270
       by_cases c28 : t142 < 0
       ·
        rw [if_pos c28] at H
        have c28b0 : decide (t142 < 0) = true := decide_eq_true c28
        clear c28
        exact absurd ((Option.some.inj H).trans hrt) (by simp)
       ·
        rw [if_neg c28] at H
        have c28b0 : decide (t142 < 0) = false := decide_eq_false c28
        clear c28
        by_cases c29 : t142 = t140
        ·
         rw [if_pos c29] at H
         have c29b0 : (t142 == t140) = true := beq_iff_eq.mpr c29
         have c29b1 : (t142 != t140) = false := bne_eq_false_iff_eq.mpr c29
         clear c29
         replace H := Option.bind_eq_some_iff.mp H
         obtain ⟨⟨t143, t144, t145⟩, A300, H⟩ := H
         replace H : ((laws_toLock.f k l1_0 a1_1).bind fun bt146 => ((impl_LockFail.f k t143 t144 t145 bt146.1 bt146.2 a2).bind fun bt150 => ((laws_eqLock.f k bt150.1 bt150.2.1 t111 t114).bind fun t156 => (if t156 = true then (if (bt150.2.2 != t115) = true then (some false) else ((laws_heldLock.f k t141 t128 1).bind fun t157 => (if t157 < 0 then (some false) else (if t157 = t140 then (some true) else (some false))))) else (some false))))) = some r := H
         have A30 := Aside0.mk A300
         clear A300
         replace H := Option.bind_eq_some_iff.mp H
         obtain ⟨⟨t146, t149⟩, A310, H⟩ := H
         replace H : ((impl_LockFail.f k t143 t144 t145 t146 t149 a2).bind fun bt150 => ((laws_eqLock.f k bt150.1 bt150.2.1 t111 t114).bind fun t156 => (if t156 = true then (if (bt150.2.2 != t115) = true then (some false) else ((laws_heldLock.f k t141 t128 1).bind fun t157 => (if t157 < 0 then (some false) else (if t157 = t140 then (some true) else (some false))))) else (some false)))) = some r := H
         have A31 := Aside0.mk A310
         clear A310
         replace H := Option.bind_eq_some_iff.mp H
         obtain ⟨⟨t150, t153, t154⟩, A320, H⟩ := H
         replace H : ((laws_eqLock.f k t150 t153 t111 t114).bind fun t156 => (if t156 = true then (if (t154 != t115) = true then (some false) else ((laws_heldLock.f k t141 t128 1).bind fun t157 => (if t157 < 0 then (some false) else (if t157 = t140 then (some true) else (some false))))) else (some false))) = some r := H
         have A32 := Aside0.mk A320
         clear A320
         replace H := Option.bind_eq_some_iff.mp H
         obtain ⟨t156, A330, H⟩ := H
         replace H : (if t156 = true then (if (t154 != t115) = true then (some false) else ((laws_heldLock.f k t141 t128 1).bind fun t157 => (if t157 < 0 then (some false) else (if t157 = t140 then (some true) else (some false))))) else (some false)) = some r := H
         have A33 := Aside0.mk A330
         clear A330
         by_cases c34 : t156 = true
         ·
          subst c34
          have H1 : (if (t154 != t115) = true then (some false) else ((laws_heldLock.f k t141 t128 1).bind fun t157 => (if t157 < 0 then (some false) else (if t157 = t140 then (some true) else (some false))))) = some r := by rw [if_pos rfl] at H; exact H
          clear H
          have H := H1
          clear H1
          by_cases c35 : (t154 != t115) = true
          ·
           rw [if_pos c35] at H
           have c35b0 : (t154 != t115) = true := c35
           (try (have c35b1 : decide (t154 = t115) = false := by simpa using c35))
           (try (have c35b2 : (t154 == t115) = false := by simpa using c35))
           (try (have c35b3 : ¬ (t154 = t115) := by simpa using c35))
           clear c35
           exact absurd ((Option.some.inj H).trans hrt) (by simp)
          ·
           rw [if_neg c35] at H
           have c35b0 : (t154 != t115) = false := by simpa using c35
           (try (have c35b1 : decide (t154 = t115) = true := by simpa using c35))
           (try (have c35b2 : (t154 == t115) = true := by simpa using c35))
           clear c35
           replace H := Option.bind_eq_some_iff.mp H
           obtain ⟨t157, A360, H⟩ := H
           replace H : (if t157 < 0 then (some false) else (if t157 = t140 then (some true) else (some false))) = some r := H
           have A36 := Aside0.mk A360
           clear A360
           by_cases c37 : t157 < 0
           ·
            rw [if_pos c37] at H
            have c37b0 : decide (t157 < 0) = true := decide_eq_true c37
            clear c37
            exact absurd ((Option.some.inj H).trans hrt) (by simp)
           ·
            rw [if_neg c37] at H
            have c37b0 : decide (t157 < 0) = false := decide_eq_false c37
            clear c37
            by_cases c38 : t157 = t140
            ·
             rw [if_pos c38] at H
             have c38b0 : (t157 == t140) = true := beq_iff_eq.mpr c38
             have c38b1 : (t157 != t140) = false := bne_eq_false_iff_eq.mpr c38
             clear c38
             obtain rfl := Option.some.inj H
             go_enter Try.func12, Try.ntmps12
             try go_wp2_with (first | ((with_reducible refine gate_dst (N := 3) rfl ?_); refine box_event ?hg (N := 3) ?hd (cs := #[.int .i64 a0_0, .int .i64 a0_1, .int .i64 a0_2]) (t := 44) ?hr ?_; (case hd => rfl); (case hg => rfl); (case hr => first | (go_simp; done) | (go_simp; rfl)); intro gb101 hg w39 hbox hb; have n0_ := Aside0.mk (below_step (qw0f12 HB.out) hb); have n1_ := Aside0.mk (hbox); have n2_ := Aside0.mk ((by rw [hg]; exact (below_size (qw0f12 HB.out)) : w.heap.size ≤ gb101)); have n3_ := Aside0.mk ((by rw [hg]; exact (below_size (qw0f12 HB.out)) : w.heap.size ≤ gb101)); clear HB; have HB := n0_; have BK101 := n1_; have GW101 := n2_; have GE101 := n3_; clear n0_ n1_ n2_ n3_; clear hb hbox hg) | ((with_reducible refine gate_dst (N := 4) rfl ?_); refine box_event ?hg (N := 4) ?hd (cs := #[.slice A1_0 l1_0.length c1_0, .int .i64 a1_1]) (t := 27) ?hr ?_; (case hd => rfl); (case hg => rfl); (case hr => first | (go_simp; done) | (go_simp; rfl)); intro gb102 hg w40 hbox hb; have n0_ := Aside0.mk (blk_below (g := gb101) (o := .cells #[.int .i64 a0_0, .int .i64 a0_1, .int .i64 a0_2] 44 (0, 0)) (qbf12 BK101.out) hb); have n1_ := Aside0.mk (below_step (qw1f12 HB.out GE101.out) hb); have n2_ := Aside0.mk (hbox); have n3_ := Aside0.mk ((by rw [hg]; exact (below_size (qw1f12 HB.out GE101.out)) : w.heap.size ≤ gb102)); have n4_ := Aside0.mk ((by rw [hg]; exact (below_size (qw1f12 HB.out GE101.out)) : w.heap.size ≤ gb102)); have n5_ := Aside0.mk ((by rw [hg]; exact Nat.ne_of_lt (blk_lt (g := gb101) (o := .cells #[.int .i64 a0_0, .int .i64 a0_1, .int .i64 a0_2] 44 (0, 0)) (qbf12 BK101.out)) : gb101 ≠ gb102)); have n6_ := Aside0.mk ((by rw [hg]; exact Nat.ne_of_gt (blk_lt (g := gb101) (o := .cells #[.int .i64 a0_0, .int .i64 a0_1, .int .i64 a0_2] 44 (0, 0)) (qbf12 BK101.out)) : gb102 ≠ gb101)); clear BK101; clear HB; have BK101 := n0_; have HB := n1_; have BK102 := n2_; have GW102 := n3_; have GE102 := n4_; have NB101_102 := n5_; have NB102_101 := n6_; clear n0_ n1_ n2_ n3_ n4_ n5_ n6_; clear hb hbox hg; have hnb41 := NB102_101.out; have hnc41 := NB101_102.out; have hcz42_0 : w40.cell? ⟨gb102, 0, none⟩ = some (.slice A1_0 l1_0.length c1_0) := (blk_cell BK102.out 0).trans rfl; have hcz42_1 : w40.cell? ⟨gb102, 1, none⟩ = some (.int .i64 a1_1) := (blk_cell BK102.out 1).trans rfl; have hfz42_0 := blk_frozen BK102.out 0; have hfz42_1 := blk_frozen BK102.out 1) | ((with_reducible refine gate_callee (f := 19) rfl ?_); refine goesL_ (some 20) rfl rfl Try.func19 (by kernel_rfl) rfl #[.agg #[.slice A1_0 l1_0.length c1_0, .int .i64 a1_1], .int .i64 1048576] rfl qff12 ?_; (with_reducible refine (laws_szLock.calls _ _ l1_0 a1_1 1048576 t103 _ ?side1 ?side2 A4.out).mono ?_); (case side1 => repeat (first | exact (Kd.C_below HR1_0.out HB.out) | (with_reducible refine Kd.C_alloc ?_ _) | (with_reducible refine Kd.C_drewN ?_ _) | (with_reducible refine Kd.C_drew ?_))); (case side2 => exact HC1_0.out); rintro e w43 ⟨rfl, hb⟩; refine ⟨_, rfl, ?_⟩; have n0_ := Aside0.mk (blk_below (g := gb101) (o := .cells #[.int .i64 a0_0, .int .i64 a0_1, .int .i64 a0_2] 44 (0, 0)) (qbf12 BK101.out) hb); have n1_ := Aside0.mk (blk_below (g := gb102) (o := .cells #[.slice A1_0 l1_0.length c1_0, .int .i64 a1_1] 27 (0, 0)) (qbf12 BK102.out) hb); have n2_ := Aside0.mk (below_step (qw2f12 HB.out GE101.out GE102.out) hb); clear BK101; clear BK102; clear HB; have BK101 := n0_; have BK102 := n1_; have HB := n2_; clear n0_ n1_ n2_; (try clear hb); (try clear hb2); (try clear hk); (try clear hi)))
             have n0_ := Aside0.mk (blk_drew BK101.out)
             have n1_ := Aside0.mk (blk_drew BK102.out)
             have n2_ := Aside0.mk (below_drew1 HB.out)
             clear BK101
             clear BK102
             clear HB
             have BK101 := n0_
             have BK102 := n1_
             have HB := n2_
             clear n0_ n1_ n2_
             refine start_ (n := 12) (S := fun w' => w'.cell? ⟨gb101, 0, none⟩ = some (.int .i64 a0_0) ∧ w'.cell? ⟨gb101, 1, none⟩ = some (.int .i64 a0_1) ∧ w'.cell? ⟨gb101, 2, none⟩ = some (.int .i64 a0_2) ∧ w'.cell? ⟨gb102, 0, none⟩ = some (.slice A1_0 l1_0.length c1_0) ∧ w'.cell? ⟨gb102, 1, none⟩ = some (.int .i64 a1_1)) (ds := []) (rlf12 [0, 12]) (by kernel_rfl) rfl rfl ⟨(blk_cell BK101.out 0).trans rfl, (blk_cell BK101.out 1).trans rfl, (blk_cell BK101.out 2).trans rfl, (blk_cell BK102.out 0).trans rfl, (blk_cell BK102.out 1).trans rfl⟩ (fun hHeld => ?_); refine with_tabW laws_FnExactLockFail.tab5 laws_FnExactLockFail.bits5 (fun HT_ HW_ => ?_)
             generalize w43.drew = w44 at BK101 BK102 HB hHeld ⊢
             refine pure_ (i := 4) (N := some 28) (v := ?_) (a' := ?_) (rlf12 [0, 4, 1, 7]) rfl rfl (any_of HT_.out (by kernel_rfl)) (fun _ _ _ h => h) (Or.inl ⟨by rfl, ?_⟩) ?_ ?_
             rotate_left
             ·
              intro w'
              go_simp
              with_reducible rfl
             rotate_left
             ·
              exact qsf12
             refine take_ (i := 0) (N := some 24) (v := ?_) (a' := ?_) (rlf12 [1, 3, 1, 7]) rfl rfl (take_ofW HT_.out HW_.out (by kernel_rfl)) (fun _ _ _ h => h) (Or.inl ⟨by rfl, ?_⟩) hHeld ?_ ?_
             rotate_left
             ·
              rintro w' ⟨s0, s1, s2, s3, s4⟩
              go_simp
              with_reducible rfl
             rotate_left
             ·
              exact qsf12
             refine take_ (i := 2) (N := some 26) (v := ?_) (a' := ?_) (rlf12 [1, 1, 1, 1, 1, 7]) rfl rfl (take_ofW HT_.out HW_.out (by kernel_rfl)) (fun _ _ _ h => h) (Or.inl ⟨by rfl, ?_⟩) hHeld ?_ ?_
             rotate_left
             ·
              rintro w' ⟨s0, s1, s2, s3, s4⟩
              go_simp
              with_reducible rfl
             rotate_left
             ·
              exact qsf12
             refine join_ (σ := Value × Value × Nat) 2 (rlf12 [10, 2]) (fun s_ => [(25, .agg #[.int .i64 t104, .int .i64 t105, .int .i64 t106]), (27, .agg #[s_.1, .int .i64 t110]), (29, .tuple #[.agg #[s_.2.1, .int .i64 t114], .bool t115]), (8, .pointer (some ⟨s_.2.2, 0, none⟩)), (23, .tuple #[.agg #[s_.2.1, .int .i64 t114], .bool t115]), (30, .agg #[s_.2.1, .int .i64 t114]), (31, .bool t115)]) (fun s_ w' => (w'.cell? ⟨gb101, 0, none⟩ = some (.int .i64 a0_0) ∧ w'.cell? ⟨gb101, 1, none⟩ = some (.int .i64 a0_1) ∧ w'.cell? ⟨gb101, 2, none⟩ = some (.int .i64 a0_2) ∧ w'.cell? ⟨gb102, 0, none⟩ = some (.slice A1_0 l1_0.length c1_0) ∧ w'.cell? ⟨gb102, 1, none⟩ = some (.int .i64 a1_1)) ∧ (Kd.R (Kd.int .i64) 3 w' w.heap.size (fun k_ => some k_ ≠ (s_.2.1 : Value).ownBlock) s_.1 t107) ∧ (Kd.R (Kd.int .i64) 3 w' w.heap.size (fun k_ => some k_ ≠ (s_.1 : Value).ownBlock) s_.2.1 t111) ∧ (w'.heap[gb101]? = some (.cells #[.int .i64 a0_0, .int .i64 a0_1, .int .i64 a0_2] 44 (0, 0))) ∧ (w'.heap[gb102]? = some (.cells #[.slice A1_0 l1_0.length c1_0, .int .i64 a1_1] 27 (0, 0))) ∧ (w'.heap[s_.2.2]? = some (.cells #[.slice none 0 0, .int .i64 0] 30 (0, 0))) ∧ (w.heap.size ≤ s_.2.2) ∧ (w.heap.size ≤ s_.2.2) ∧ (gb101 ≠ s_.2.2) ∧ (s_.2.2 ≠ gb101) ∧ (gb102 ≠ s_.2.2) ∧ (s_.2.2 ≠ gb102) ∧ (Below w.heap.size w w')) ?_ ?_
             rotate_left
             ·
              intro hCont
              refine two_ (i := 1) (j := 9) (Ni := some 25) (Nj := some 8) (rlf12 [3, 1, 1, 7]) (rlf12 [1, 1, 1, 1, 1, 4, 1, 2]) rfl rfl rfl rfl (two_of HT_.out (by kernel_rfl)) (by decide) (by decide) (fun K hK => ?_) (fun K hK => ?_)
              ·
               skip
               refine goes_ Try.func31 (by kernel_rfl) rfl #[.agg #[.int .i64 a0_0, .int .i64 a0_1, .int .i64 a0_2]] (by rfl) rfl rfl qff12 ?_
               with_reducible refine (laws_toLockRule.calls a0_0 a0_1 a0_2 t104 t105 t106 _ A10.out).mono ?_
               rintro e w45 ⟨rfl, hb⟩
               refine ⟨_, rfl, ?_⟩
               have n0_ := Aside0.mk (blk_below (g := gb101) (o := .cells #[.int .i64 a0_0, .int .i64 a0_1, .int .i64 a0_2] 44 (0, 0)) (qbf12 BK101.out) hb)
               have n1_ := Aside0.mk (blk_below (g := gb102) (o := .cells #[.slice A1_0 l1_0.length c1_0, .int .i64 a1_1] 27 (0, 0)) (qbf12 BK102.out) hb)
               have n2_ := Aside0.mk (below_step (qw2f12 HB.out GE101.out GE102.out) hb)
               clear BK101
               clear BK102
               clear HB
               have BK101 := n0_
               have BK102 := n1_
               have HB := n2_
               clear n0_ n1_ n2_
               (try clear hb)
               (try clear hb2)
               (try clear hk)
               (try clear hi)
               refine hK.out _ _ ⟨(blk_cell BK101.out 0).trans rfl, (blk_cell BK101.out 1).trans rfl, (blk_cell BK101.out 2).trans rfl, (blk_cell BK102.out 0).trans rfl, (blk_cell BK102.out 1).trans rfl⟩ (fun hHeld => ?_)
               clear hK K
               refine norm_ (a' := ?_) ?_ ?_
               rotate_left
               ·
                show Act.put _ (some 25) _ = _
                exact qsf12
               refine two_ (i := 3) (j := 9) (Ni := some 27) (Nj := some 8) (rlf12 [5, 7]) (rlf12 [3, 1, 1, 4, 1, 2]) rfl rfl rfl rfl (two_of HT_.out (by kernel_rfl)) (by decide) (by decide) (fun K hK => ?_) (fun K hK => ?_)
               ·
                skip
                refine goes_ Try.func21 (by kernel_rfl) rfl #[.agg #[.slice A1_0 l1_0.length c1_0, .int .i64 a1_1]] (by rfl) rfl rfl qff12 ?_
                with_reducible refine (laws_toLock.calls k _ _ l1_0 a1_1 t107 t110 _ ?side1 ?side2 A11.out).mono ?_
                (case side1 => repeat (first | exact (Kd.C_below HR1_0.out HB.out) | (with_reducible refine Kd.C_alloc ?_ _) | (with_reducible refine Kd.C_drewN ?_ _) | (with_reducible refine Kd.C_drew ?_)))
                (case side2 => exact HC1_0.out)
                rintro e w46 ⟨v108, rfl, ho0, hb⟩
                refine ⟨_, rfl, ?_⟩
                have n0_ := Aside0.mk (Kd.R_lower ho0 (below_size (qw2f12 HB.out GE101.out GE102.out)))
                have n1_ := Aside0.mk (blk_below (g := gb101) (o := .cells #[.int .i64 a0_0, .int .i64 a0_1, .int .i64 a0_2] 44 (0, 0)) (qbf12 BK101.out) hb)
                have n2_ := Aside0.mk (blk_below (g := gb102) (o := .cells #[.slice A1_0 l1_0.length c1_0, .int .i64 a1_1] 27 (0, 0)) (qbf12 BK102.out) hb)
                have n3_ := Aside0.mk (below_step (qw2f12 HB.out GE101.out GE102.out) hb)
                clear BK101
                clear BK102
                clear HB
                have HO109 := n0_
                have BK101 := n1_
                have BK102 := n2_
                have HB := n3_
                clear n0_ n1_ n2_ n3_
                (try clear hb)
                (try clear hb2)
                (try clear hk)
                (try clear hi)
                (try clear ho0)
                obtain ⟨Ao47, co47, eo47⟩ := Kd.R_slice HO109.out
                (first | subst eo47 | (injection eo47 with f1_ f2_ f3_; have f4_ := f1_.symm; have f5_ := f3_.symm; clear f1_ f2_ f3_; subst f4_; subst f5_))
                refine hK.out _ _ ⟨(blk_cell BK101.out 0).trans rfl, (blk_cell BK101.out 1).trans rfl, (blk_cell BK101.out 2).trans rfl, (blk_cell BK102.out 0).trans rfl, (blk_cell BK102.out 1).trans rfl⟩ (fun hHeld => ?_)
                clear hK K
                refine norm_ (a' := ?_) ?_ ?_
                rotate_left
                ·
                 show Act.put _ (some 27) _ = _
                 exact qsf12
                refine two_ (i := 5) (j := 9) (Ni := some 29) (Nj := some 8) (rlf12 [6, 6]) (rlf12 [5, 4, 1, 2]) rfl rfl rfl rfl (two_of HT_.out (by kernel_rfl)) (by decide) (by decide) (fun K hK => ?_) (fun K hK => ?_)
                ·
                 skip
                 refine goes_ Try.func44 (by kernel_rfl) rfl #[.agg #[.int .i64 t104, .int .i64 t105, .int .i64 t106], .agg #[.slice Ao47 t107.length co47, .int .i64 t110], .int .i64 a2] (by rfl) rfl rfl qff12 ?_
                 with_reducible refine (spec_LockFail.calls k t104 t105 t106 _ _ t107 t110 a2 t111 t114 t115 _ ?side1 ?side2 A12.out).mono ?_
                 (case side1 => repeat (first | exact (Kd.R_reads' HO109.out).2.2 | (with_reducible refine Kd.C_alloc ?_ _) | (with_reducible refine Kd.C_drewN ?_ _) | (with_reducible refine Kd.C_drew ?_)))
                 (case side2 => exact (Kd.R_reads' HO109.out).2.1)
                 rintro e w48 ⟨v112, rfl, ho0, hb⟩
                 refine ⟨_, rfl, ?_⟩
                 have n0_ := Aside0.mk (Kd.R_elder' (qrf12 HO109.out) (Kd.R_base ho0) hb)
                 have n1_ := Aside0.mk (Kd.R_lower (Kd.R_new' ho0 (Kd.R_lt (qrf12 HO109.out))) (below_size (qw2f12 HB.out GE101.out GE102.out)))
                 have n2_ := Aside0.mk (blk_below (g := gb101) (o := .cells #[.int .i64 a0_0, .int .i64 a0_1, .int .i64 a0_2] 44 (0, 0)) (qbf12 BK101.out) hb)
                 have n3_ := Aside0.mk (blk_below (g := gb102) (o := .cells #[.slice A1_0 l1_0.length c1_0, .int .i64 a1_1] 27 (0, 0)) (qbf12 BK102.out) hb)
                 have n4_ := Aside0.mk (below_step (qw2f12 HB.out GE101.out GE102.out) hb)
                 clear HO109
                 clear BK101
                 clear BK102
                 clear HB
                 have HO109 := n0_
                 have HO113 := n1_
                 have BK101 := n2_
                 have BK102 := n3_
                 have HB := n4_
                 clear n0_ n1_ n2_ n3_ n4_
                 (try clear hb)
                 (try clear hb2)
                 (try clear hk)
                 (try clear hi)
                 (try clear ho0)
                 refine hK.out _ _ ⟨(blk_cell BK101.out 0).trans rfl, (blk_cell BK101.out 1).trans rfl, (blk_cell BK101.out 2).trans rfl, (blk_cell BK102.out 0).trans rfl, (blk_cell BK102.out 1).trans rfl⟩ (fun hHeld => ?_)
                 clear hK K
                 refine norm_ (a' := ?_) ?_ ?_
                 rotate_left
                 ·
                  show Act.put _ (some 29) _ = _
                  exact qsf12
                 refine pure_ (i := 6) (N := some 23) (v := ?_) (a' := ?_) (rlf12 [7, 5]) rfl rfl (any_of HT_.out (by kernel_rfl)) (fun _ _ _ h => h) (Or.inl ⟨by rfl, ?_⟩) ?_ ?_
                 rotate_left
                 ·
                  intro w'
                  go_simp
                  with_reducible rfl
                 rotate_left
                 ·
                  exact qsf12
                 refine pure_ (i := 7) (N := some 30) (v := ?_) (a' := ?_) (rlf12 [8, 4]) rfl rfl (any_of HT_.out (by kernel_rfl)) (fun _ _ _ h => h) (Or.inl ⟨by rfl, ?_⟩) ?_ ?_
                 rotate_left
                 ·
                  intro w'
                  go_simp
                  with_reducible rfl
                 rotate_left
                 ·
                  exact qsf12
                 refine pure_ (i := 8) (N := some 31) (v := ?_) (a' := ?_) (rlf12 [9, 3]) rfl rfl (any_of HT_.out (by kernel_rfl)) (fun _ _ _ h => h) (Or.inl ⟨by rfl, ?_⟩) ?_ ?_
                 rotate_left
                 ·
                  intro w'
                  go_simp
                  with_reducible rfl
                 rotate_left
                 ·
                  exact qsf12
                 refine one_ (i := 9) (N := some 8) (rlf12 [10, 2]) rfl rfl (one_of HT_.out (by kernel_rfl)) (by decide) (fun K hK => ?_)
                 refine box_step ?hg (N := 8) ?hd (cs := #[.slice none 0 0, .int .i64 0]) (t := 30) ?hr ?_; (case hd => rfl); (case hg => rfl); (case hr => first | (go_simp; done) | (go_simp; rfl))
                 intro gb116 hg w49 hbox hb
                 have n0_ := Aside0.mk (Kd.R_below (qrf12 HO109.out) hb)
                 have n1_ := Aside0.mk (Kd.R_below (qrf12 HO113.out) hb)
                 have n2_ := Aside0.mk (blk_below (g := gb101) (o := .cells #[.int .i64 a0_0, .int .i64 a0_1, .int .i64 a0_2] 44 (0, 0)) (qbf12 BK101.out) hb)
                 have n3_ := Aside0.mk (blk_below (g := gb102) (o := .cells #[.slice A1_0 l1_0.length c1_0, .int .i64 a1_1] 27 (0, 0)) (qbf12 BK102.out) hb)
                 have n4_ := Aside0.mk (below_step (qw2f12 HB.out GE101.out GE102.out) hb)
                 have n5_ := Aside0.mk (hbox)
                 have n6_ := Aside0.mk ((by rw [hg]; exact (below_size (qw2f12 HB.out GE101.out GE102.out)) : w.heap.size ≤ gb116))
                 have n7_ := Aside0.mk ((by rw [hg]; exact (below_size (qw2f12 HB.out GE101.out GE102.out)) : w.heap.size ≤ gb116))
                 have n8_ := Aside0.mk ((by rw [hg]; exact Nat.ne_of_lt (blk_lt (g := gb101) (o := .cells #[.int .i64 a0_0, .int .i64 a0_1, .int .i64 a0_2] 44 (0, 0)) (qbf12 BK101.out)) : gb101 ≠ gb116))
                 have n9_ := Aside0.mk ((by rw [hg]; exact Nat.ne_of_gt (blk_lt (g := gb101) (o := .cells #[.int .i64 a0_0, .int .i64 a0_1, .int .i64 a0_2] 44 (0, 0)) (qbf12 BK101.out)) : gb116 ≠ gb101))
                 have n10_ := Aside0.mk ((by rw [hg]; exact Nat.ne_of_lt (blk_lt (g := gb102) (o := .cells #[.slice A1_0 l1_0.length c1_0, .int .i64 a1_1] 27 (0, 0)) (qbf12 BK102.out)) : gb102 ≠ gb116))
                 have n11_ := Aside0.mk ((by rw [hg]; exact Nat.ne_of_gt (blk_lt (g := gb102) (o := .cells #[.slice A1_0 l1_0.length c1_0, .int .i64 a1_1] 27 (0, 0)) (qbf12 BK102.out)) : gb116 ≠ gb102))
                 clear HO109
                 clear HO113
                 clear BK101
                 clear BK102
                 clear HB
                 have HO109 := n0_
                 have HO113 := n1_
                 have BK101 := n2_
                 have BK102 := n3_
                 have HB := n4_
                 have BK116 := n5_
                 have GW116 := n6_
                 have GE116 := n7_
                 have NB101_116 := n8_
                 have NB116_101 := n9_
                 have NB102_116 := n10_
                 have NB116_102 := n11_
                 clear n0_ n1_ n2_ n3_ n4_ n5_ n6_ n7_ n8_ n9_ n10_ n11_
                 clear hb hbox hg
                 refine hK.out _ _ ⟨(blk_cell BK101.out 0).trans rfl, (blk_cell BK101.out 1).trans rfl, (blk_cell BK101.out 2).trans rfl, (blk_cell BK102.out 0).trans rfl, (blk_cell BK102.out 1).trans rfl⟩ (fun hHeld => ?_)
                 clear hK K
                 refine norm_ (a' := ?_) ?_ ?_
                 rotate_left
                 ·
                  show Act.put _ (some 8) _ = _
                  exact qsf12
                 exact norm_ (by simp only [putAll, Act.put, List.setIfInBounds_toArray, List.set_cons_zero, List.set_cons_succ]) (hCont (.slice Ao47 t107.length co47, v112, gb116) _ ⟨hHeld, (by (with_reducible repeat (first | apply Kd.R_alloc | apply Kd.R_drewN | apply Kd.R_drew)); exact Kd.R_mono HO109.out (fun _ hk => hk.2)), (by (with_reducible repeat (first | apply Kd.R_alloc | apply Kd.R_drewN | apply Kd.R_drew)); exact Kd.R_mono HO113.out (fun _ hk => hk.2)), (qbf12 BK101.out), (qbf12 BK102.out), (qbf12 BK116.out), GW116.out, GE116.out, NB101_116.out, NB116_101.out, NB102_116.out, NB116_102.out, (qw3f12 HB.out GE101.out GE102.out GE116.out)⟩)
                ·
                 skip
                 refine box_step ?hg (N := 8) ?hd (cs := #[.slice none 0 0, .int .i64 0]) (t := 30) ?hr ?_; (case hd => rfl); (case hg => rfl); (case hr => first | (go_simp; done) | (go_simp; rfl))
                 intro gb116 hg w47 hbox hb
                 have n0_ := Aside0.mk (Kd.R_below (qrf12 HO109.out) hb)
                 have n1_ := Aside0.mk (blk_below (g := gb101) (o := .cells #[.int .i64 a0_0, .int .i64 a0_1, .int .i64 a0_2] 44 (0, 0)) (qbf12 BK101.out) hb)
                 have n2_ := Aside0.mk (blk_below (g := gb102) (o := .cells #[.slice A1_0 l1_0.length c1_0, .int .i64 a1_1] 27 (0, 0)) (qbf12 BK102.out) hb)
                 have n3_ := Aside0.mk (below_step (qw2f12 HB.out GE101.out GE102.out) hb)
                 have n4_ := Aside0.mk (hbox)
                 have n5_ := Aside0.mk ((by rw [hg]; exact (below_size (qw2f12 HB.out GE101.out GE102.out)) : w.heap.size ≤ gb116))
                 have n6_ := Aside0.mk ((by rw [hg]; exact (below_size (qw2f12 HB.out GE101.out GE102.out)) : w.heap.size ≤ gb116))
                 have n7_ := Aside0.mk ((by rw [hg]; exact Nat.ne_of_lt (blk_lt (g := gb101) (o := .cells #[.int .i64 a0_0, .int .i64 a0_1, .int .i64 a0_2] 44 (0, 0)) (qbf12 BK101.out)) : gb101 ≠ gb116))
                 have n8_ := Aside0.mk ((by rw [hg]; exact Nat.ne_of_gt (blk_lt (g := gb101) (o := .cells #[.int .i64 a0_0, .int .i64 a0_1, .int .i64 a0_2] 44 (0, 0)) (qbf12 BK101.out)) : gb116 ≠ gb101))
                 have n9_ := Aside0.mk ((by rw [hg]; exact Nat.ne_of_lt (blk_lt (g := gb102) (o := .cells #[.slice A1_0 l1_0.length c1_0, .int .i64 a1_1] 27 (0, 0)) (qbf12 BK102.out)) : gb102 ≠ gb116))
                 have n10_ := Aside0.mk ((by rw [hg]; exact Nat.ne_of_gt (blk_lt (g := gb102) (o := .cells #[.slice A1_0 l1_0.length c1_0, .int .i64 a1_1] 27 (0, 0)) (qbf12 BK102.out)) : gb116 ≠ gb102))
                 clear HO109
                 clear BK101
                 clear BK102
                 clear HB
                 have HO109 := n0_
                 have BK101 := n1_
                 have BK102 := n2_
                 have HB := n3_
                 have BK116 := n4_
                 have GW116 := n5_
                 have GE116 := n6_
                 have NB101_116 := n7_
                 have NB116_101 := n8_
                 have NB102_116 := n9_
                 have NB116_102 := n10_
                 clear n0_ n1_ n2_ n3_ n4_ n5_ n6_ n7_ n8_ n9_ n10_
                 clear hb hbox hg
                 obtain ⟨Ao48, co48, eo48⟩ := Kd.R_slice HO109.out
                 (first | subst eo48 | (injection eo48 with f1_ f2_ f3_; have f4_ := f1_.symm; have f5_ := f3_.symm; clear f1_ f2_ f3_; subst f4_; subst f5_))
                 refine hK.out _ _ ⟨(blk_cell BK101.out 0).trans rfl, (blk_cell BK101.out 1).trans rfl, (blk_cell BK101.out 2).trans rfl, (blk_cell BK102.out 0).trans rfl, (blk_cell BK102.out 1).trans rfl⟩ (fun hHeld => ?_)
                 clear hK K
                 refine norm_ (a' := ?_) ?_ ?_
                 rotate_left
                 ·
                  show Act.put _ (some 8) _ = _
                  exact qsf12
                 refine one_ (i := 5) (N := some 29) (rlf12 [6, 3, 1, 2]) rfl rfl (one_of HT_.out (by kernel_rfl)) (by decide) (fun K hK => ?_)
                 refine goes_ Try.func44 (by kernel_rfl) rfl #[.agg #[.int .i64 t104, .int .i64 t105, .int .i64 t106], .agg #[.slice Ao48 t107.length co48, .int .i64 t110], .int .i64 a2] (by rfl) rfl rfl qff12 ?_
                 with_reducible refine (spec_LockFail.calls k t104 t105 t106 _ _ t107 t110 a2 t111 t114 t115 _ ?side1 ?side2 A12.out).mono ?_
                 (case side1 => repeat (first | exact (Kd.R_reads' HO109.out).2.2 | (with_reducible refine Kd.C_alloc ?_ _) | (with_reducible refine Kd.C_drewN ?_ _) | (with_reducible refine Kd.C_drew ?_)))
                 (case side2 => exact (Kd.R_reads' HO109.out).2.1)
                 rintro e w49 ⟨v112, rfl, ho0, hb⟩
                 refine ⟨_, rfl, ?_⟩
                 have n0_ := Aside0.mk (Kd.R_elder' (qrf12 HO109.out) (Kd.R_base ho0) hb)
                 have n1_ := Aside0.mk (Kd.R_lower (Kd.R_new' ho0 (Kd.R_lt (qrf12 HO109.out))) (below_size (qw3f12 HB.out GE101.out GE102.out GE116.out)))
                 have n2_ := Aside0.mk (blk_below (g := gb101) (o := .cells #[.int .i64 a0_0, .int .i64 a0_1, .int .i64 a0_2] 44 (0, 0)) (qbf12 BK101.out) hb)
                 have n3_ := Aside0.mk (blk_below (g := gb102) (o := .cells #[.slice A1_0 l1_0.length c1_0, .int .i64 a1_1] 27 (0, 0)) (qbf12 BK102.out) hb)
                 have n4_ := Aside0.mk (blk_below (g := gb116) (o := .cells #[.slice none 0 0, .int .i64 0] 30 (0, 0)) (qbf12 BK116.out) hb)
                 have n5_ := Aside0.mk (below_step (qw3f12 HB.out GE101.out GE102.out GE116.out) hb)
                 clear HO109
                 clear BK101
                 clear BK102
                 clear BK116
                 clear HB
                 have HO109 := n0_
                 have HO113 := n1_
                 have BK101 := n2_
                 have BK102 := n3_
                 have BK116 := n4_
                 have HB := n5_
                 clear n0_ n1_ n2_ n3_ n4_ n5_
                 (try clear hb)
                 (try clear hb2)
                 (try clear hk)
                 (try clear hi)
                 (try clear ho0)
                 refine hK.out _ _ ⟨(blk_cell BK101.out 0).trans rfl, (blk_cell BK101.out 1).trans rfl, (blk_cell BK101.out 2).trans rfl, (blk_cell BK102.out 0).trans rfl, (blk_cell BK102.out 1).trans rfl⟩ (fun hHeld => ?_)
                 clear hK K
                 refine norm_ (a' := ?_) ?_ ?_
                 rotate_left
                 ·
                  show Act.put _ (some 29) _ = _
                  exact qsf12
                 refine pure_ (i := 6) (N := some 23) (v := ?_) (a' := ?_) (rlf12 [7, 2, 1, 2]) rfl rfl (any_of HT_.out (by kernel_rfl)) (fun _ _ _ h => h) (Or.inl ⟨by rfl, ?_⟩) ?_ ?_
                 rotate_left
                 ·
                  intro w'
                  go_simp
                  with_reducible rfl
                 rotate_left
                 ·
                  exact qsf12
                 refine pure_ (i := 7) (N := some 30) (v := ?_) (a' := ?_) (rlf12 [8, 1, 1, 2]) rfl rfl (any_of HT_.out (by kernel_rfl)) (fun _ _ _ h => h) (Or.inl ⟨by rfl, ?_⟩) ?_ ?_
                 rotate_left
                 ·
                  intro w'
                  go_simp
                  with_reducible rfl
                 rotate_left
                 ·
                  exact qsf12
                 refine pure_ (i := 8) (N := some 31) (v := ?_) (a' := ?_) (rlf12 [10, 2]) rfl rfl (any_of HT_.out (by kernel_rfl)) (fun _ _ _ h => h) (Or.inl ⟨by rfl, ?_⟩) ?_ ?_
                 rotate_left
                 ·
                  intro w'
                  go_simp
                  with_reducible rfl
                 rotate_left
                 ·
                  exact qsf12
                 exact norm_ (by simp only [putAll, Act.put, List.setIfInBounds_toArray, List.set_cons_zero, List.set_cons_succ]) (hCont (.slice Ao48 t107.length co48, v112, gb116) _ ⟨hHeld, (by (with_reducible repeat (first | apply Kd.R_alloc | apply Kd.R_drewN | apply Kd.R_drew)); exact Kd.R_mono HO109.out (fun _ hk => hk.2)), (by (with_reducible repeat (first | apply Kd.R_alloc | apply Kd.R_drewN | apply Kd.R_drew)); exact Kd.R_mono HO113.out (fun _ hk => hk.2)), (qbf12 BK101.out), (qbf12 BK102.out), (qbf12 BK116.out), GW116.out, GE116.out, NB101_116.out, NB116_101.out, NB102_116.out, NB116_102.out, (qw3f12 HB.out GE101.out GE102.out GE116.out)⟩)
               ·
                skip
                refine box_step ?hg (N := 8) ?hd (cs := #[.slice none 0 0, .int .i64 0]) (t := 30) ?hr ?_; (case hd => rfl); (case hg => rfl); (case hr => first | (go_simp; done) | (go_simp; rfl))
                intro gb116 hg w46 hbox hb
                have n0_ := Aside0.mk (blk_below (g := gb101) (o := .cells #[.int .i64 a0_0, .int .i64 a0_1, .int .i64 a0_2] 44 (0, 0)) (qbf12 BK101.out) hb)
                have n1_ := Aside0.mk (blk_below (g := gb102) (o := .cells #[.slice A1_0 l1_0.length c1_0, .int .i64 a1_1] 27 (0, 0)) (qbf12 BK102.out) hb)
                have n2_ := Aside0.mk (below_step (qw2f12 HB.out GE101.out GE102.out) hb)
                have n3_ := Aside0.mk (hbox)
                have n4_ := Aside0.mk ((by rw [hg]; exact (below_size (qw2f12 HB.out GE101.out GE102.out)) : w.heap.size ≤ gb116))
                have n5_ := Aside0.mk ((by rw [hg]; exact (below_size (qw2f12 HB.out GE101.out GE102.out)) : w.heap.size ≤ gb116))
                have n6_ := Aside0.mk ((by rw [hg]; exact Nat.ne_of_lt (blk_lt (g := gb101) (o := .cells #[.int .i64 a0_0, .int .i64 a0_1, .int .i64 a0_2] 44 (0, 0)) (qbf12 BK101.out)) : gb101 ≠ gb116))
                have n7_ := Aside0.mk ((by rw [hg]; exact Nat.ne_of_gt (blk_lt (g := gb101) (o := .cells #[.int .i64 a0_0, .int .i64 a0_1, .int .i64 a0_2] 44 (0, 0)) (qbf12 BK101.out)) : gb116 ≠ gb101))
                have n8_ := Aside0.mk ((by rw [hg]; exact Nat.ne_of_lt (blk_lt (g := gb102) (o := .cells #[.slice A1_0 l1_0.length c1_0, .int .i64 a1_1] 27 (0, 0)) (qbf12 BK102.out)) : gb102 ≠ gb116))
                have n9_ := Aside0.mk ((by rw [hg]; exact Nat.ne_of_gt (blk_lt (g := gb102) (o := .cells #[.slice A1_0 l1_0.length c1_0, .int .i64 a1_1] 27 (0, 0)) (qbf12 BK102.out)) : gb116 ≠ gb102))
                clear BK101
                clear BK102
                clear HB
                have BK101 := n0_
                have BK102 := n1_
                have HB := n2_
                have BK116 := n3_
                have GW116 := n4_
                have GE116 := n5_
                have NB101_116 := n6_
                have NB116_101 := n7_
                have NB102_116 := n8_
                have NB116_102 := n9_
                clear n0_ n1_ n2_ n3_ n4_ n5_ n6_ n7_ n8_ n9_
                clear hb hbox hg
                refine hK.out _ _ ⟨(blk_cell BK101.out 0).trans rfl, (blk_cell BK101.out 1).trans rfl, (blk_cell BK101.out 2).trans rfl, (blk_cell BK102.out 0).trans rfl, (blk_cell BK102.out 1).trans rfl⟩ (fun hHeld => ?_)
                clear hK K
                refine norm_ (a' := ?_) ?_ ?_
                rotate_left
                ·
                 show Act.put _ (some 8) _ = _
                 exact qsf12
                refine one_ (i := 3) (N := some 27) (rlf12 [5, 4, 1, 2]) rfl rfl (one_of HT_.out (by kernel_rfl)) (by decide) (fun K hK => ?_)
                refine goes_ Try.func21 (by kernel_rfl) rfl #[.agg #[.slice A1_0 l1_0.length c1_0, .int .i64 a1_1]] (by rfl) rfl rfl qff12 ?_
                with_reducible refine (laws_toLock.calls k _ _ l1_0 a1_1 t107 t110 _ ?side1 ?side2 A11.out).mono ?_
                (case side1 => repeat (first | exact (Kd.C_below HR1_0.out HB.out) | (with_reducible refine Kd.C_alloc ?_ _) | (with_reducible refine Kd.C_drewN ?_ _) | (with_reducible refine Kd.C_drew ?_)))
                (case side2 => exact HC1_0.out)
                rintro e w47 ⟨v108, rfl, ho0, hb⟩
                refine ⟨_, rfl, ?_⟩
                have n0_ := Aside0.mk (Kd.R_lower ho0 (below_size (qw3f12 HB.out GE101.out GE102.out GE116.out)))
                have n1_ := Aside0.mk (blk_below (g := gb101) (o := .cells #[.int .i64 a0_0, .int .i64 a0_1, .int .i64 a0_2] 44 (0, 0)) (qbf12 BK101.out) hb)
                have n2_ := Aside0.mk (blk_below (g := gb102) (o := .cells #[.slice A1_0 l1_0.length c1_0, .int .i64 a1_1] 27 (0, 0)) (qbf12 BK102.out) hb)
                have n3_ := Aside0.mk (blk_below (g := gb116) (o := .cells #[.slice none 0 0, .int .i64 0] 30 (0, 0)) (qbf12 BK116.out) hb)
                have n4_ := Aside0.mk (below_step (qw3f12 HB.out GE101.out GE102.out GE116.out) hb)
                clear BK101
                clear BK102
                clear BK116
                clear HB
                have HO109 := n0_
                have BK101 := n1_
                have BK102 := n2_
                have BK116 := n3_
                have HB := n4_
                clear n0_ n1_ n2_ n3_ n4_
                (try clear hb)
                (try clear hb2)
                (try clear hk)
                (try clear hi)
                (try clear ho0)
                obtain ⟨Ao48, co48, eo48⟩ := Kd.R_slice HO109.out
                (first | subst eo48 | (injection eo48 with f1_ f2_ f3_; have f4_ := f1_.symm; have f5_ := f3_.symm; clear f1_ f2_ f3_; subst f4_; subst f5_))
                refine hK.out _ _ ⟨(blk_cell BK101.out 0).trans rfl, (blk_cell BK101.out 1).trans rfl, (blk_cell BK101.out 2).trans rfl, (blk_cell BK102.out 0).trans rfl, (blk_cell BK102.out 1).trans rfl⟩ (fun hHeld => ?_)
                clear hK K
                refine norm_ (a' := ?_) ?_ ?_
                rotate_left
                ·
                 show Act.put _ (some 27) _ = _
                 exact qsf12
                refine one_ (i := 5) (N := some 29) (rlf12 [6, 3, 1, 2]) rfl rfl (one_of HT_.out (by kernel_rfl)) (by decide) (fun K hK => ?_)
                refine goes_ Try.func44 (by kernel_rfl) rfl #[.agg #[.int .i64 t104, .int .i64 t105, .int .i64 t106], .agg #[.slice Ao48 t107.length co48, .int .i64 t110], .int .i64 a2] (by rfl) rfl rfl qff12 ?_
                with_reducible refine (spec_LockFail.calls k t104 t105 t106 _ _ t107 t110 a2 t111 t114 t115 _ ?side1 ?side2 A12.out).mono ?_
                (case side1 => repeat (first | exact (Kd.R_reads' HO109.out).2.2 | (with_reducible refine Kd.C_alloc ?_ _) | (with_reducible refine Kd.C_drewN ?_ _) | (with_reducible refine Kd.C_drew ?_)))
                (case side2 => exact (Kd.R_reads' HO109.out).2.1)
                rintro e w49 ⟨v112, rfl, ho0, hb⟩
                refine ⟨_, rfl, ?_⟩
                have n0_ := Aside0.mk (Kd.R_elder' (qrf12 HO109.out) (Kd.R_base ho0) hb)
                have n1_ := Aside0.mk (Kd.R_lower (Kd.R_new' ho0 (Kd.R_lt (qrf12 HO109.out))) (below_size (qw3f12 HB.out GE101.out GE102.out GE116.out)))
                have n2_ := Aside0.mk (blk_below (g := gb101) (o := .cells #[.int .i64 a0_0, .int .i64 a0_1, .int .i64 a0_2] 44 (0, 0)) (qbf12 BK101.out) hb)
                have n3_ := Aside0.mk (blk_below (g := gb102) (o := .cells #[.slice A1_0 l1_0.length c1_0, .int .i64 a1_1] 27 (0, 0)) (qbf12 BK102.out) hb)
                have n4_ := Aside0.mk (blk_below (g := gb116) (o := .cells #[.slice none 0 0, .int .i64 0] 30 (0, 0)) (qbf12 BK116.out) hb)
                have n5_ := Aside0.mk (below_step (qw3f12 HB.out GE101.out GE102.out GE116.out) hb)
                clear HO109
                clear BK101
                clear BK102
                clear BK116
                clear HB
                have HO109 := n0_
                have HO113 := n1_
                have BK101 := n2_
                have BK102 := n3_
                have BK116 := n4_
                have HB := n5_
                clear n0_ n1_ n2_ n3_ n4_ n5_
                (try clear hb)
                (try clear hb2)
                (try clear hk)
                (try clear hi)
                (try clear ho0)
                refine hK.out _ _ ⟨(blk_cell BK101.out 0).trans rfl, (blk_cell BK101.out 1).trans rfl, (blk_cell BK101.out 2).trans rfl, (blk_cell BK102.out 0).trans rfl, (blk_cell BK102.out 1).trans rfl⟩ (fun hHeld => ?_)
                clear hK K
                refine norm_ (a' := ?_) ?_ ?_
                rotate_left
                ·
                 show Act.put _ (some 29) _ = _
                 exact qsf12
                refine pure_ (i := 6) (N := some 23) (v := ?_) (a' := ?_) (rlf12 [7, 2, 1, 2]) rfl rfl (any_of HT_.out (by kernel_rfl)) (fun _ _ _ h => h) (Or.inl ⟨by rfl, ?_⟩) ?_ ?_
                rotate_left
                ·
                 intro w'
                 go_simp
                 with_reducible rfl
                rotate_left
                ·
                 exact qsf12
                refine pure_ (i := 7) (N := some 30) (v := ?_) (a' := ?_) (rlf12 [8, 1, 1, 2]) rfl rfl (any_of HT_.out (by kernel_rfl)) (fun _ _ _ h => h) (Or.inl ⟨by rfl, ?_⟩) ?_ ?_
                rotate_left
                ·
                 intro w'
                 go_simp
                 with_reducible rfl
                rotate_left
                ·
                 exact qsf12
                refine pure_ (i := 8) (N := some 31) (v := ?_) (a' := ?_) (rlf12 [10, 2]) rfl rfl (any_of HT_.out (by kernel_rfl)) (fun _ _ _ h => h) (Or.inl ⟨by rfl, ?_⟩) ?_ ?_
                rotate_left
                ·
                 intro w'
                 go_simp
                 with_reducible rfl
                rotate_left
                ·
                 exact qsf12
                exact norm_ (by simp only [putAll, Act.put, List.setIfInBounds_toArray, List.set_cons_zero, List.set_cons_succ]) (hCont (.slice Ao48 t107.length co48, v112, gb116) _ ⟨hHeld, (by (with_reducible repeat (first | apply Kd.R_alloc | apply Kd.R_drewN | apply Kd.R_drew)); exact Kd.R_mono HO109.out (fun _ hk => hk.2)), (by (with_reducible repeat (first | apply Kd.R_alloc | apply Kd.R_drewN | apply Kd.R_drew)); exact Kd.R_mono HO113.out (fun _ hk => hk.2)), (qbf12 BK101.out), (qbf12 BK102.out), (qbf12 BK116.out), GW116.out, GE116.out, NB101_116.out, NB116_101.out, NB102_116.out, NB116_102.out, (qw3f12 HB.out GE101.out GE102.out GE116.out)⟩)
              ·
               skip
               refine box_step ?hg (N := 8) ?hd (cs := #[.slice none 0 0, .int .i64 0]) (t := 30) ?hr ?_; (case hd => rfl); (case hg => rfl); (case hr => first | (go_simp; done) | (go_simp; rfl))
               intro gb116 hg w45 hbox hb
               have n0_ := Aside0.mk (blk_below (g := gb101) (o := .cells #[.int .i64 a0_0, .int .i64 a0_1, .int .i64 a0_2] 44 (0, 0)) (qbf12 BK101.out) hb)
               have n1_ := Aside0.mk (blk_below (g := gb102) (o := .cells #[.slice A1_0 l1_0.length c1_0, .int .i64 a1_1] 27 (0, 0)) (qbf12 BK102.out) hb)
               have n2_ := Aside0.mk (below_step (qw2f12 HB.out GE101.out GE102.out) hb)
               have n3_ := Aside0.mk (hbox)
               have n4_ := Aside0.mk ((by rw [hg]; exact (below_size (qw2f12 HB.out GE101.out GE102.out)) : w.heap.size ≤ gb116))
               have n5_ := Aside0.mk ((by rw [hg]; exact (below_size (qw2f12 HB.out GE101.out GE102.out)) : w.heap.size ≤ gb116))
               have n6_ := Aside0.mk ((by rw [hg]; exact Nat.ne_of_lt (blk_lt (g := gb101) (o := .cells #[.int .i64 a0_0, .int .i64 a0_1, .int .i64 a0_2] 44 (0, 0)) (qbf12 BK101.out)) : gb101 ≠ gb116))
               have n7_ := Aside0.mk ((by rw [hg]; exact Nat.ne_of_gt (blk_lt (g := gb101) (o := .cells #[.int .i64 a0_0, .int .i64 a0_1, .int .i64 a0_2] 44 (0, 0)) (qbf12 BK101.out)) : gb116 ≠ gb101))
               have n8_ := Aside0.mk ((by rw [hg]; exact Nat.ne_of_lt (blk_lt (g := gb102) (o := .cells #[.slice A1_0 l1_0.length c1_0, .int .i64 a1_1] 27 (0, 0)) (qbf12 BK102.out)) : gb102 ≠ gb116))
               have n9_ := Aside0.mk ((by rw [hg]; exact Nat.ne_of_gt (blk_lt (g := gb102) (o := .cells #[.slice A1_0 l1_0.length c1_0, .int .i64 a1_1] 27 (0, 0)) (qbf12 BK102.out)) : gb116 ≠ gb102))
               clear BK101
               clear BK102
               clear HB
               have BK101 := n0_
               have BK102 := n1_
               have HB := n2_
               have BK116 := n3_
               have GW116 := n4_
               have GE116 := n5_
               have NB101_116 := n6_
               have NB116_101 := n7_
               have NB102_116 := n8_
               have NB116_102 := n9_
               clear n0_ n1_ n2_ n3_ n4_ n5_ n6_ n7_ n8_ n9_
               clear hb hbox hg
               refine hK.out _ _ ⟨(blk_cell BK101.out 0).trans rfl, (blk_cell BK101.out 1).trans rfl, (blk_cell BK101.out 2).trans rfl, (blk_cell BK102.out 0).trans rfl, (blk_cell BK102.out 1).trans rfl⟩ (fun hHeld => ?_)
               clear hK K
               refine norm_ (a' := ?_) ?_ ?_
               rotate_left
               ·
                show Act.put _ (some 8) _ = _
                exact qsf12
               refine one_ (i := 1) (N := some 25) (rlf12 [3, 1, 1, 4, 1, 2]) rfl rfl (one_of HT_.out (by kernel_rfl)) (by decide) (fun K hK => ?_)
               refine goes_ Try.func31 (by kernel_rfl) rfl #[.agg #[.int .i64 a0_0, .int .i64 a0_1, .int .i64 a0_2]] (by rfl) rfl rfl qff12 ?_
               with_reducible refine (laws_toLockRule.calls a0_0 a0_1 a0_2 t104 t105 t106 _ A10.out).mono ?_
               rintro e w46 ⟨rfl, hb⟩
               refine ⟨_, rfl, ?_⟩
               have n0_ := Aside0.mk (blk_below (g := gb101) (o := .cells #[.int .i64 a0_0, .int .i64 a0_1, .int .i64 a0_2] 44 (0, 0)) (qbf12 BK101.out) hb)
               have n1_ := Aside0.mk (blk_below (g := gb102) (o := .cells #[.slice A1_0 l1_0.length c1_0, .int .i64 a1_1] 27 (0, 0)) (qbf12 BK102.out) hb)
               have n2_ := Aside0.mk (blk_below (g := gb116) (o := .cells #[.slice none 0 0, .int .i64 0] 30 (0, 0)) (qbf12 BK116.out) hb)
               have n3_ := Aside0.mk (below_step (qw3f12 HB.out GE101.out GE102.out GE116.out) hb)
               clear BK101
               clear BK102
               clear BK116
               clear HB
               have BK101 := n0_
               have BK102 := n1_
               have BK116 := n2_
               have HB := n3_
               clear n0_ n1_ n2_ n3_
               (try clear hb)
               (try clear hb2)
               (try clear hk)
               (try clear hi)
               refine hK.out _ _ ⟨(blk_cell BK101.out 0).trans rfl, (blk_cell BK101.out 1).trans rfl, (blk_cell BK101.out 2).trans rfl, (blk_cell BK102.out 0).trans rfl, (blk_cell BK102.out 1).trans rfl⟩ (fun hHeld => ?_)
               clear hK K
               refine norm_ (a' := ?_) ?_ ?_
               rotate_left
               ·
                show Act.put _ (some 25) _ = _
                exact qsf12
               refine one_ (i := 3) (N := some 27) (rlf12 [5, 4, 1, 2]) rfl rfl (one_of HT_.out (by kernel_rfl)) (by decide) (fun K hK => ?_)
               refine goes_ Try.func21 (by kernel_rfl) rfl #[.agg #[.slice A1_0 l1_0.length c1_0, .int .i64 a1_1]] (by rfl) rfl rfl qff12 ?_
               with_reducible refine (laws_toLock.calls k _ _ l1_0 a1_1 t107 t110 _ ?side1 ?side2 A11.out).mono ?_
               (case side1 => repeat (first | exact (Kd.C_below HR1_0.out HB.out) | (with_reducible refine Kd.C_alloc ?_ _) | (with_reducible refine Kd.C_drewN ?_ _) | (with_reducible refine Kd.C_drew ?_)))
               (case side2 => exact HC1_0.out)
               rintro e w47 ⟨v108, rfl, ho0, hb⟩
               refine ⟨_, rfl, ?_⟩
               have n0_ := Aside0.mk (Kd.R_lower ho0 (below_size (qw3f12 HB.out GE101.out GE102.out GE116.out)))
               have n1_ := Aside0.mk (blk_below (g := gb101) (o := .cells #[.int .i64 a0_0, .int .i64 a0_1, .int .i64 a0_2] 44 (0, 0)) (qbf12 BK101.out) hb)
               have n2_ := Aside0.mk (blk_below (g := gb102) (o := .cells #[.slice A1_0 l1_0.length c1_0, .int .i64 a1_1] 27 (0, 0)) (qbf12 BK102.out) hb)
               have n3_ := Aside0.mk (blk_below (g := gb116) (o := .cells #[.slice none 0 0, .int .i64 0] 30 (0, 0)) (qbf12 BK116.out) hb)
               have n4_ := Aside0.mk (below_step (qw3f12 HB.out GE101.out GE102.out GE116.out) hb)
               clear BK101
               clear BK102
               clear BK116
               clear HB
               have HO109 := n0_
               have BK101 := n1_
               have BK102 := n2_
               have BK116 := n3_
               have HB := n4_
               clear n0_ n1_ n2_ n3_ n4_
               (try clear hb)
               (try clear hb2)
               (try clear hk)
               (try clear hi)
               (try clear ho0)
               obtain ⟨Ao48, co48, eo48⟩ := Kd.R_slice HO109.out
               (first | subst eo48 | (injection eo48 with f1_ f2_ f3_; have f4_ := f1_.symm; have f5_ := f3_.symm; clear f1_ f2_ f3_; subst f4_; subst f5_))
               refine hK.out _ _ ⟨(blk_cell BK101.out 0).trans rfl, (blk_cell BK101.out 1).trans rfl, (blk_cell BK101.out 2).trans rfl, (blk_cell BK102.out 0).trans rfl, (blk_cell BK102.out 1).trans rfl⟩ (fun hHeld => ?_)
               clear hK K
               refine norm_ (a' := ?_) ?_ ?_
               rotate_left
               ·
                show Act.put _ (some 27) _ = _
                exact qsf12
               refine one_ (i := 5) (N := some 29) (rlf12 [6, 3, 1, 2]) rfl rfl (one_of HT_.out (by kernel_rfl)) (by decide) (fun K hK => ?_)
               refine goes_ Try.func44 (by kernel_rfl) rfl #[.agg #[.int .i64 t104, .int .i64 t105, .int .i64 t106], .agg #[.slice Ao48 t107.length co48, .int .i64 t110], .int .i64 a2] (by rfl) rfl rfl qff12 ?_
               with_reducible refine (spec_LockFail.calls k t104 t105 t106 _ _ t107 t110 a2 t111 t114 t115 _ ?side1 ?side2 A12.out).mono ?_
               (case side1 => repeat (first | exact (Kd.R_reads' HO109.out).2.2 | (with_reducible refine Kd.C_alloc ?_ _) | (with_reducible refine Kd.C_drewN ?_ _) | (with_reducible refine Kd.C_drew ?_)))
               (case side2 => exact (Kd.R_reads' HO109.out).2.1)
               rintro e w49 ⟨v112, rfl, ho0, hb⟩
               refine ⟨_, rfl, ?_⟩
               have n0_ := Aside0.mk (Kd.R_elder' (qrf12 HO109.out) (Kd.R_base ho0) hb)
               have n1_ := Aside0.mk (Kd.R_lower (Kd.R_new' ho0 (Kd.R_lt (qrf12 HO109.out))) (below_size (qw3f12 HB.out GE101.out GE102.out GE116.out)))
               have n2_ := Aside0.mk (blk_below (g := gb101) (o := .cells #[.int .i64 a0_0, .int .i64 a0_1, .int .i64 a0_2] 44 (0, 0)) (qbf12 BK101.out) hb)
               have n3_ := Aside0.mk (blk_below (g := gb102) (o := .cells #[.slice A1_0 l1_0.length c1_0, .int .i64 a1_1] 27 (0, 0)) (qbf12 BK102.out) hb)
               have n4_ := Aside0.mk (blk_below (g := gb116) (o := .cells #[.slice none 0 0, .int .i64 0] 30 (0, 0)) (qbf12 BK116.out) hb)
               have n5_ := Aside0.mk (below_step (qw3f12 HB.out GE101.out GE102.out GE116.out) hb)
               clear HO109
               clear BK101
               clear BK102
               clear BK116
               clear HB
               have HO109 := n0_
               have HO113 := n1_
               have BK101 := n2_
               have BK102 := n3_
               have BK116 := n4_
               have HB := n5_
               clear n0_ n1_ n2_ n3_ n4_ n5_
               (try clear hb)
               (try clear hb2)
               (try clear hk)
               (try clear hi)
               (try clear ho0)
               refine hK.out _ _ ⟨(blk_cell BK101.out 0).trans rfl, (blk_cell BK101.out 1).trans rfl, (blk_cell BK101.out 2).trans rfl, (blk_cell BK102.out 0).trans rfl, (blk_cell BK102.out 1).trans rfl⟩ (fun hHeld => ?_)
               clear hK K
               refine norm_ (a' := ?_) ?_ ?_
               rotate_left
               ·
                show Act.put _ (some 29) _ = _
                exact qsf12
               refine pure_ (i := 6) (N := some 23) (v := ?_) (a' := ?_) (rlf12 [7, 2, 1, 2]) rfl rfl (any_of HT_.out (by kernel_rfl)) (fun _ _ _ h => h) (Or.inl ⟨by rfl, ?_⟩) ?_ ?_
               rotate_left
               ·
                intro w'
                go_simp
                with_reducible rfl
               rotate_left
               ·
                exact qsf12
               refine pure_ (i := 7) (N := some 30) (v := ?_) (a' := ?_) (rlf12 [8, 1, 1, 2]) rfl rfl (any_of HT_.out (by kernel_rfl)) (fun _ _ _ h => h) (Or.inl ⟨by rfl, ?_⟩) ?_ ?_
               rotate_left
               ·
                intro w'
                go_simp
                with_reducible rfl
               rotate_left
               ·
                exact qsf12
               refine pure_ (i := 8) (N := some 31) (v := ?_) (a' := ?_) (rlf12 [10, 2]) rfl rfl (any_of HT_.out (by kernel_rfl)) (fun _ _ _ h => h) (Or.inl ⟨by rfl, ?_⟩) ?_ ?_
               rotate_left
               ·
                intro w'
                go_simp
                with_reducible rfl
               rotate_left
               ·
                exact qsf12
               exact norm_ (by simp only [putAll, Act.put, List.setIfInBounds_toArray, List.set_cons_zero, List.set_cons_succ]) (hCont (.slice Ao48 t107.length co48, v112, gb116) _ ⟨hHeld, (by (with_reducible repeat (first | apply Kd.R_alloc | apply Kd.R_drewN | apply Kd.R_drew)); exact Kd.R_mono HO109.out (fun _ hk => hk.2)), (by (with_reducible repeat (first | apply Kd.R_alloc | apply Kd.R_drewN | apply Kd.R_drew)); exact Kd.R_mono HO113.out (fun _ hk => hk.2)), (qbf12 BK101.out), (qbf12 BK102.out), (qbf12 BK116.out), GW116.out, GE116.out, NB101_116.out, NB116_101.out, NB102_116.out, NB116_102.out, (qw3f12 HB.out GE101.out GE102.out GE116.out)⟩)
             rintro ⟨v108, v112, gb116⟩ w50 ⟨hS_, h0_, h1_, h2_, h3_, h4_, h5_, h6_, h7_, h8_, h9_, h10_, h11_⟩
             have n0_ : Aside0 (Kd.R (Kd.int .i64) 3 w50 w.heap.size (fun k_ => some k_ ≠ (v112 : Value).ownBlock) v108 t107) := ⟨h0_⟩
             have n1_ : Aside0 (Kd.R (Kd.int .i64) 3 w50 w.heap.size (fun k_ => some k_ ≠ (v108 : Value).ownBlock) v112 t111) := ⟨h1_⟩
             have n2_ : Aside0 (w50.heap[gb101]? = some (.cells #[.int .i64 a0_0, .int .i64 a0_1, .int .i64 a0_2] 44 (0, 0))) := ⟨h2_⟩
             have n3_ : Aside0 (w50.heap[gb102]? = some (.cells #[.slice A1_0 l1_0.length c1_0, .int .i64 a1_1] 27 (0, 0))) := ⟨h3_⟩
             have n4_ : Aside0 (w50.heap[gb116]? = some (.cells #[.slice none 0 0, .int .i64 0] 30 (0, 0))) := ⟨h4_⟩
             have n5_ : Aside0 (w.heap.size ≤ gb116) := ⟨h5_⟩
             have n6_ : Aside0 (w.heap.size ≤ gb116) := ⟨h6_⟩
             have n7_ : Aside0 (gb101 ≠ gb116) := ⟨h7_⟩
             have n8_ : Aside0 (gb116 ≠ gb101) := ⟨h8_⟩
             have n9_ : Aside0 (gb102 ≠ gb116) := ⟨h9_⟩
             have n10_ : Aside0 (gb116 ≠ gb102) := ⟨h10_⟩
             have n11_ : Aside0 (Below w.heap.size w w50) := ⟨h11_⟩
             clear BK101
             clear BK102
             clear HB
             clear h0_ h1_ h2_ h3_ h4_ h5_ h6_ h7_ h8_ h9_ h10_ h11_
             have HO109 := n0_
             have HO113 := n1_
             have BK101 := n2_
             have BK102 := n3_
             have BK116 := n4_
             have GW116 := n5_
             have GE116 := n6_
             have NB101_116 := n7_
             have NB116_101 := n8_
             have NB102_116 := n9_
             have NB116_102 := n10_
             have HB := n11_
             clear n0_ n1_ n2_ n3_ n4_ n5_ n6_ n7_ n8_ n9_ n10_ n11_
             have hHeld : w50.cell? ⟨gb101, 0, none⟩ = some (.int .i64 a0_0) ∧ w50.cell? ⟨gb101, 1, none⟩ = some (.int .i64 a0_1) ∧ w50.cell? ⟨gb101, 2, none⟩ = some (.int .i64 a0_2) ∧ w50.cell? ⟨gb102, 0, none⟩ = some (.slice A1_0 l1_0.length c1_0) ∧ w50.cell? ⟨gb102, 1, none⟩ = some (.int .i64 a1_1) := hS_
             obtain ⟨Ao51, co51, eo51⟩ := Kd.R_slice HO113.out
             (first | subst eo51 | (injection eo51 with f1_ f2_ f3_; have f4_ := f1_.symm; have f5_ := f3_.symm; clear f1_ f2_ f3_; subst f4_; subst f5_))
             refine norm_ (a' := ?_) ?_ ?_
             rotate_left
             ·
              simp only [putAll, Act.put, List.setIfInBounds_toArray, List.set_cons_zero, List.set_cons_succ]
              rfl
             refine one_ (i := 10) (N := none) (rlf12 [11, 1]) rfl rfl (one_of HT_.out (by kernel_rfl)) (by decide) (fun K hK => ?_)
             have hs52 : w50.cell? ⟨gb116, 0, none⟩ = some (.slice none 0 0) := (blk_cell BK116.out 0).trans rfl
             have hfs52 := blk_frozen BK116.out 0
             have hns52_0 := NB101_116.out
             have hns52_1 := NB102_116.out
             have hms52_0 := NB116_101.out
             have hms52_1 := NB116_102.out
             have hs53 : w50.cell? ⟨gb116, 1, none⟩ = some (.int .i64 0) := (blk_cell BK116.out 1).trans rfl
             have hfs53 := blk_frozen BK116.out 1
             have hns53_0 := NB101_116.out
             have hns53_1 := NB102_116.out
             have hms53_0 := NB116_101.out
             have hms53_1 := NB116_102.out
             refine skip_ (w1 := ?_) (by rfl) rfl ?_ ?_
             rotate_left
             ·
              go_simp
              rfl
             refine hK.out _ _ ⟨((cell_far (p := ⟨gb116, _, none⟩) NB101_116.out _).trans (((cell_far (p := ⟨gb116, _, none⟩) NB101_116.out _).trans (hHeld.1)))), ((cell_far (p := ⟨gb116, _, none⟩) NB101_116.out _).trans (((cell_far (p := ⟨gb116, _, none⟩) NB101_116.out _).trans (hHeld.2.1)))), ((cell_far (p := ⟨gb116, _, none⟩) NB101_116.out _).trans (((cell_far (p := ⟨gb116, _, none⟩) NB101_116.out _).trans (hHeld.2.2.1)))), ((cell_far (p := ⟨gb116, _, none⟩) NB102_116.out _).trans (((cell_far (p := ⟨gb116, _, none⟩) NB102_116.out _).trans (hHeld.2.2.2.1)))), ((cell_far (p := ⟨gb116, _, none⟩) NB102_116.out _).trans (((cell_far (p := ⟨gb116, _, none⟩) NB102_116.out _).trans (hHeld.2.2.2.2))))⟩ (fun hHeld => ?_)
             clear hK K
             refine pure_ (i := 11) (N := some 9) (v := ?_) (a' := ?_) (rlf12 [12]) rfl rfl (any_of HT_.out (by kernel_rfl)) (fun _ _ _ h => h) (Or.inl ⟨by rfl, ?_⟩) ?_ ?_
             rotate_left
             ·
              intro w'
              go_simp
              with_reducible rfl
             rotate_left
             ·
              exact qsf12
             refine done_ (done_of HT_.out (by kernel_rfl)) ?_
             have hnb54 := NB102_116.out
             have hnc54 := NB116_102.out
             have hcz55_0 : w50.cell? ⟨gb102, 0, none⟩ = some (.slice A1_0 l1_0.length c1_0) := (blk_cell BK102.out 0).trans rfl
             have hcz55_1 : w50.cell? ⟨gb102, 1, none⟩ = some (.int .i64 a1_1) := (blk_cell BK102.out 1).trans rfl
             have hfz55_0 := blk_frozen BK102.out 0
             have hfz55_1 := blk_frozen BK102.out 1
             try go_wp2_with (first | ((with_reducible refine gate_callee (f := 21) rfl ?_); refine goesL_ (some 33) rfl rfl Try.func21 (by kernel_rfl) rfl #[.agg #[.slice A1_0 l1_0.length c1_0, .int .i64 a1_1]] rfl qff12 ?_; (with_reducible refine (laws_toLock.calls k _ _ l1_0 a1_1 t117 t120 _ ?side1 ?side2 A13.out).mono ?_); (case side1 => exact Kd.C_below HR1_0.out (qw3f12 HB.out GE101.out GE102.out GE116.out)); (case side2 => exact HC1_0.out); rintro e w56 ⟨v118, rfl, ho0, hb⟩; refine ⟨_, rfl, ?_⟩; have n0_ := Aside0.mk (Kd.R_elder' (by (with_reducible repeat (first | apply Kd.R_alloc | apply Kd.R_drewN | apply Kd.R_drew)); exact (Kd.R_mono (Kd.R_far (p := ⟨gb116, 1, none⟩) (Kd.R_far (p := ⟨gb116, 0, none⟩) (Kd.R_types HO109.out BK116.out (by decide)) (fun _ hk => hk.2) (.slice Ao51 t111.length co51)) (fun _ hk => hk.2) (.int .i64 t114)) (fun _ h_ => h_.1))) (Kd.R_base ho0) hb); have n1_ := Aside0.mk (Kd.R_elder' (by (with_reducible repeat (first | apply Kd.R_alloc | apply Kd.R_drewN | apply Kd.R_drew)); exact (Kd.R_mono (Kd.R_far (p := ⟨gb116, 1, none⟩) (Kd.R_far (p := ⟨gb116, 0, none⟩) (Kd.R_types HO113.out BK116.out (by decide)) (fun _ hk => hk.2) (.slice Ao51 t111.length co51)) (fun _ hk => hk.2) (.int .i64 t114)) (fun _ h_ => h_.1))) (Kd.R_base ho0) hb); have n2_ := Aside0.mk (Kd.R_lower (Kd.R_new' (Kd.R_new' ho0 (Kd.R_lt (by (with_reducible repeat (first | apply Kd.R_alloc | apply Kd.R_drewN | apply Kd.R_drew)); exact (Kd.R_mono (Kd.R_far (p := ⟨gb116, 1, none⟩) (Kd.R_far (p := ⟨gb116, 0, none⟩) (Kd.R_types HO109.out BK116.out (by decide)) (fun _ hk => hk.2) (.slice Ao51 t111.length co51)) (fun _ hk => hk.2) (.int .i64 t114)) (fun _ h_ => h_.1))))) (Kd.R_lt (by (with_reducible repeat (first | apply Kd.R_alloc | apply Kd.R_drewN | apply Kd.R_drew)); exact (Kd.R_mono (Kd.R_far (p := ⟨gb116, 1, none⟩) (Kd.R_far (p := ⟨gb116, 0, none⟩) (Kd.R_types HO113.out BK116.out (by decide)) (fun _ hk => hk.2) (.slice Ao51 t111.length co51)) (fun _ hk => hk.2) (.int .i64 t114)) (fun _ h_ => h_.1))))) (below_size (qw3f12 HB.out GE101.out GE102.out GE116.out))); have n3_ := Aside0.mk (blk_below (g := gb101) (o := .cells #[.int .i64 a0_0, .int .i64 a0_1, .int .i64 a0_2] 44 (0, 0)) (by (with_reducible repeat (first | refine blk_drewN ?_ _ | refine blk_drew ?_ | refine blk_alloc ?_ _)); refine blk_far ?_ NB101_116.out _; (with_reducible repeat (first | refine blk_drewN ?_ _ | refine blk_drew ?_ | refine blk_alloc ?_ _)); refine blk_far ?_ NB101_116.out _; (with_reducible repeat (first | refine blk_drewN ?_ _ | refine blk_drew ?_ | refine blk_alloc ?_ _)); exact BK101.out) hb); have n4_ := Aside0.mk (blk_below (g := gb102) (o := .cells #[.slice A1_0 l1_0.length c1_0, .int .i64 a1_1] 27 (0, 0)) (by (with_reducible repeat (first | refine blk_drewN ?_ _ | refine blk_drew ?_ | refine blk_alloc ?_ _)); refine blk_far ?_ NB102_116.out _; (with_reducible repeat (first | refine blk_drewN ?_ _ | refine blk_drew ?_ | refine blk_alloc ?_ _)); refine blk_far ?_ NB102_116.out _; (with_reducible repeat (first | refine blk_drewN ?_ _ | refine blk_drew ?_ | refine blk_alloc ?_ _)); exact BK102.out) hb); have n5_ := Aside0.mk (blk_below (g := gb116) (o := .cells #[.slice Ao51 t111.length co51, .int .i64 t114] 30 (0, 0)) (by (with_reducible repeat (first | refine blk_drewN ?_ _ | refine blk_drew ?_ | refine blk_alloc ?_ _)); refine blk_put (cs := #[.slice Ao51 t111.length co51, .int .i64 0]) ?_ 1 _ rfl; (with_reducible repeat (first | refine blk_drewN ?_ _ | refine blk_drew ?_ | refine blk_alloc ?_ _)); refine blk_put (cs := #[.slice none 0 0, .int .i64 0]) ?_ 0 _ rfl; (with_reducible repeat (first | refine blk_drewN ?_ _ | refine blk_drew ?_ | refine blk_alloc ?_ _)); exact BK116.out) hb); have n6_ := Aside0.mk (below_step (qw3f12 HB.out GE101.out GE102.out GE116.out) hb); clear HO109; clear HO113; clear BK101; clear BK102; clear BK116; clear HB; have HO109 := n0_; have HO113 := n1_; have HO119 := n2_; have BK101 := n3_; have BK102 := n4_; have BK116 := n5_; have HB := n6_; clear n0_ n1_ n2_ n3_ n4_ n5_ n6_; (try clear hb); (try clear hb2); (try clear hk); (try clear hi); (try clear ho0)) | ((with_reducible refine gate_dst (N := 10) rfl ?_); refine box_event ?hg (N := 10) ?hd (cs := #[.slice none 0 0, .int .i64 0]) (t := 30) ?hr ?_; (case hd => rfl); (case hg => rfl); (case hr => first | (go_simp; done) | (go_simp; rfl)); intro gb121 hg w57 hbox hb; have n0_ := Aside0.mk (Kd.R_below (qrf12 HO109.out) hb); have n1_ := Aside0.mk (Kd.R_below (qrf12 HO113.out) hb); have n2_ := Aside0.mk (Kd.R_below (qrf12 HO119.out) hb); have n3_ := Aside0.mk (blk_below (g := gb101) (o := .cells #[.int .i64 a0_0, .int .i64 a0_1, .int .i64 a0_2] 44 (0, 0)) (qbf12 BK101.out) hb); have n4_ := Aside0.mk (blk_below (g := gb102) (o := .cells #[.slice A1_0 l1_0.length c1_0, .int .i64 a1_1] 27 (0, 0)) (qbf12 BK102.out) hb); have n5_ := Aside0.mk (blk_below (g := gb116) (o := .cells #[.slice Ao51 t111.length co51, .int .i64 t114] 30 (0, 0)) (qbf12 BK116.out) hb); have n6_ := Aside0.mk (below_step (qw3f12 HB.out GE101.out GE102.out GE116.out) hb); have n7_ := Aside0.mk (hbox); have n8_ := Aside0.mk ((by rw [hg]; exact (below_size (qw3f12 HB.out GE101.out GE102.out GE116.out)) : w.heap.size ≤ gb121)); have n9_ := Aside0.mk ((by rw [hg]; exact (below_size (qw3f12 HB.out GE101.out GE102.out GE116.out)) : w.heap.size ≤ gb121)); have n10_ := Aside0.mk ((by rw [hg]; exact Nat.ne_of_lt (blk_lt (g := gb101) (o := .cells #[.int .i64 a0_0, .int .i64 a0_1, .int .i64 a0_2] 44 (0, 0)) (qbf12 BK101.out)) : gb101 ≠ gb121)); have n11_ := Aside0.mk ((by rw [hg]; exact Nat.ne_of_gt (blk_lt (g := gb101) (o := .cells #[.int .i64 a0_0, .int .i64 a0_1, .int .i64 a0_2] 44 (0, 0)) (qbf12 BK101.out)) : gb121 ≠ gb101)); have n12_ := Aside0.mk ((by rw [hg]; exact Nat.ne_of_lt (blk_lt (g := gb102) (o := .cells #[.slice A1_0 l1_0.length c1_0, .int .i64 a1_1] 27 (0, 0)) (qbf12 BK102.out)) : gb102 ≠ gb121)); have n13_ := Aside0.mk ((by rw [hg]; exact Nat.ne_of_gt (blk_lt (g := gb102) (o := .cells #[.slice A1_0 l1_0.length c1_0, .int .i64 a1_1] 27 (0, 0)) (qbf12 BK102.out)) : gb121 ≠ gb102)); have n14_ := Aside0.mk ((by rw [hg]; exact Nat.ne_of_lt (blk_lt (g := gb116) (o := .cells #[.slice Ao51 t111.length co51, .int .i64 t114] 30 (0, 0)) (qbf12 BK116.out)) : gb116 ≠ gb121)); have n15_ := Aside0.mk ((by rw [hg]; exact Nat.ne_of_gt (blk_lt (g := gb116) (o := .cells #[.slice Ao51 t111.length co51, .int .i64 t114] 30 (0, 0)) (qbf12 BK116.out)) : gb121 ≠ gb116)); clear HO109; clear HO113; clear HO119; clear BK101; clear BK102; clear BK116; clear HB; have HO109 := n0_; have HO113 := n1_; have HO119 := n2_; have BK101 := n3_; have BK102 := n4_; have BK116 := n5_; have HB := n6_; have BK121 := n7_; have GW121 := n8_; have GE121 := n9_; have NB101_121 := n10_; have NB121_101 := n11_; have NB102_121 := n12_; have NB121_102 := n13_; have NB116_121 := n14_; have NB121_116 := n15_; clear n0_ n1_ n2_ n3_ n4_ n5_ n6_ n7_ n8_ n9_ n10_ n11_ n12_ n13_ n14_ n15_; clear hb hbox hg; obtain ⟨Ao58, co58, eo58⟩ := Kd.R_slice HO119.out; subst eo58; have hnb59 := NB121_101.out; have hnc59 := NB101_121.out; have hnb60 := NB121_102.out; have hnc60 := NB102_121.out; have hnb61 := NB121_116.out; have hnc61 := NB116_121.out; have hcz62_0 : w57.cell? ⟨gb121, 0, none⟩ = some (.slice none 0 0) := (blk_cell BK121.out 0).trans rfl; have hcz62_1 : w57.cell? ⟨gb121, 1, none⟩ = some (.int .i64 0) := (blk_cell BK121.out 1).trans rfl; have hfz62_0 := blk_frozen BK121.out 0; have hfz62_1 := blk_frozen BK121.out 1))
             have n0_ : Aside0 (Kd.R (Kd.int .i64) 3 ((w57.setCell ⟨gb121, 0, none⟩ (.slice Ao58 t117.length co58)).setCell ⟨gb121, 1, none⟩ (.int .i64 t120)) w.heap.size (fun k_ => some k_ ≠ (.slice Ao51 t111.length co51 : Value).ownBlock ∧ some k_ ≠ (.slice Ao58 t117.length co58 : Value).ownBlock) v108 t107) := ⟨by (with_reducible repeat (first | apply Kd.R_alloc | apply Kd.R_drewN | apply Kd.R_drew)); exact Kd.R_mono (Kd.R_far (p := ⟨gb121, 1, none⟩) (Kd.R_far (p := ⟨gb121, 0, none⟩) (Kd.R_types HO109.out BK121.out (by decide)) (fun _ hk => hk.2) (.slice Ao58 t117.length co58)) (fun _ hk => hk.2) (.int .i64 t120)) (fun _ hk => ⟨hk.1.1, hk.1.2⟩)⟩
             have n1_ : Aside0 (Kd.R (Kd.int .i64) 3 ((w57.setCell ⟨gb121, 0, none⟩ (.slice Ao58 t117.length co58)).setCell ⟨gb121, 1, none⟩ (.int .i64 t120)) w.heap.size (fun k_ => some k_ ≠ (v108 : Value).ownBlock ∧ some k_ ≠ (.slice Ao58 t117.length co58 : Value).ownBlock) (.slice Ao51 t111.length co51) t111) := ⟨by (with_reducible repeat (first | apply Kd.R_alloc | apply Kd.R_drewN | apply Kd.R_drew)); exact Kd.R_mono (Kd.R_far (p := ⟨gb121, 1, none⟩) (Kd.R_far (p := ⟨gb121, 0, none⟩) (Kd.R_types HO113.out BK121.out (by decide)) (fun _ hk => hk.2) (.slice Ao58 t117.length co58)) (fun _ hk => hk.2) (.int .i64 t120)) (fun _ hk => ⟨hk.1.1, hk.1.2⟩)⟩
             have n2_ : Aside0 (Kd.R (Kd.int .i64) 3 ((w57.setCell ⟨gb121, 0, none⟩ (.slice Ao58 t117.length co58)).setCell ⟨gb121, 1, none⟩ (.int .i64 t120)) w.heap.size (fun k_ => some k_ ≠ (v108 : Value).ownBlock ∧ some k_ ≠ (.slice Ao51 t111.length co51 : Value).ownBlock) (.slice Ao58 t117.length co58) t117) := ⟨by (with_reducible repeat (first | apply Kd.R_alloc | apply Kd.R_drewN | apply Kd.R_drew)); exact Kd.R_mono (Kd.R_far (p := ⟨gb121, 1, none⟩) (Kd.R_far (p := ⟨gb121, 0, none⟩) (Kd.R_types HO119.out BK121.out (by decide)) (fun _ hk => hk.2) (.slice Ao58 t117.length co58)) (fun _ hk => hk.2) (.int .i64 t120)) (fun _ hk => ⟨hk.1.1.2, hk.1.2⟩)⟩
             have n3_ : Aside0 (((w57.setCell ⟨gb121, 0, none⟩ (.slice Ao58 t117.length co58)).setCell ⟨gb121, 1, none⟩ (.int .i64 t120)).heap[gb101]? = some (.cells #[.int .i64 a0_0, .int .i64 a0_1, .int .i64 a0_2] 44 (0, 0))) := ⟨by (with_reducible repeat (first | refine blk_drewN ?_ _ | refine blk_drew ?_ | refine blk_alloc ?_ _)); refine blk_far ?_ NB101_121.out _; (with_reducible repeat (first | refine blk_drewN ?_ _ | refine blk_drew ?_ | refine blk_alloc ?_ _)); refine blk_far ?_ NB101_121.out _; (with_reducible repeat (first | refine blk_drewN ?_ _ | refine blk_drew ?_ | refine blk_alloc ?_ _)); exact BK101.out⟩
             have n4_ : Aside0 (((w57.setCell ⟨gb121, 0, none⟩ (.slice Ao58 t117.length co58)).setCell ⟨gb121, 1, none⟩ (.int .i64 t120)).heap[gb102]? = some (.cells #[.slice A1_0 l1_0.length c1_0, .int .i64 a1_1] 27 (0, 0))) := ⟨by (with_reducible repeat (first | refine blk_drewN ?_ _ | refine blk_drew ?_ | refine blk_alloc ?_ _)); refine blk_far ?_ NB102_121.out _; (with_reducible repeat (first | refine blk_drewN ?_ _ | refine blk_drew ?_ | refine blk_alloc ?_ _)); refine blk_far ?_ NB102_121.out _; (with_reducible repeat (first | refine blk_drewN ?_ _ | refine blk_drew ?_ | refine blk_alloc ?_ _)); exact BK102.out⟩
             have n5_ : Aside0 (((w57.setCell ⟨gb121, 0, none⟩ (.slice Ao58 t117.length co58)).setCell ⟨gb121, 1, none⟩ (.int .i64 t120)).heap[gb116]? = some (.cells #[.slice Ao51 t111.length co51, .int .i64 t114] 30 (0, 0))) := ⟨by (with_reducible repeat (first | refine blk_drewN ?_ _ | refine blk_drew ?_ | refine blk_alloc ?_ _)); refine blk_far ?_ NB116_121.out _; (with_reducible repeat (first | refine blk_drewN ?_ _ | refine blk_drew ?_ | refine blk_alloc ?_ _)); refine blk_far ?_ NB116_121.out _; (with_reducible repeat (first | refine blk_drewN ?_ _ | refine blk_drew ?_ | refine blk_alloc ?_ _)); exact BK116.out⟩
             have n6_ : Aside0 (((w57.setCell ⟨gb121, 0, none⟩ (.slice Ao58 t117.length co58)).setCell ⟨gb121, 1, none⟩ (.int .i64 t120)).heap[gb121]? = some (.cells #[.slice Ao58 t117.length co58, .int .i64 t120] 30 (0, 0))) := ⟨by (with_reducible repeat (first | refine blk_drewN ?_ _ | refine blk_drew ?_ | refine blk_alloc ?_ _)); refine blk_put (cs := #[.slice Ao58 t117.length co58, .int .i64 0]) ?_ 1 _ rfl; (with_reducible repeat (first | refine blk_drewN ?_ _ | refine blk_drew ?_ | refine blk_alloc ?_ _)); refine blk_put (cs := #[.slice none 0 0, .int .i64 0]) ?_ 0 _ rfl; (with_reducible repeat (first | refine blk_drewN ?_ _ | refine blk_drew ?_ | refine blk_alloc ?_ _)); exact BK121.out⟩
             have n7_ : Aside0 (Below w.heap.size w ((w57.setCell ⟨gb121, 0, none⟩ (.slice Ao58 t117.length co58)).setCell ⟨gb121, 1, none⟩ (.int .i64 t120))) := ⟨by repeat (first | (with_reducible first | exact HB.out | apply below_alloc | apply pw_below_drewN | apply below_drew1 | refine below_set ?_ GE101.out | refine below_set ?_ GE102.out | refine below_set ?_ GE116.out | refine below_set ?_ GE121.out) | exact HB.out)⟩
             (try clear HO109)
             (try clear HO113)
             (try clear HO119)
             (try clear BK101)
             (try clear BK102)
             (try clear BK116)
             (try clear BK121)
             (try clear HB)
             generalize ((w57.setCell ⟨gb121, 0, none⟩ (.slice Ao58 t117.length co58)).setCell ⟨gb121, 1, none⟩ (.int .i64 t120)) = w63 at n0_ n1_ n2_ n3_ n4_ n5_ n6_ n7_ ⊢
             have HO109 := n0_
             have HO113 := n1_
             have HO119 := n2_
             have BK101 := n3_
             have BK102 := n4_
             have BK116 := n5_
             have BK121 := n6_
             have HB := n7_
             clear n0_ n1_ n2_ n3_ n4_ n5_ n6_ n7_
             have n0_ := Aside0.mk (Kd.R_drew HO109.out)
             have n1_ := Aside0.mk (Kd.R_drew HO113.out)
             have n2_ := Aside0.mk (Kd.R_drew HO119.out)
             have n3_ := Aside0.mk (blk_drew BK101.out)
             have n4_ := Aside0.mk (blk_drew BK102.out)
             have n5_ := Aside0.mk (blk_drew BK116.out)
             have n6_ := Aside0.mk (blk_drew BK121.out)
             have n7_ := Aside0.mk (below_drew1 HB.out)
             clear HO109
             clear HO113
             clear HO119
             clear BK101
             clear BK102
             clear BK116
             clear BK121
             clear HB
             have HO109 := n0_
             have HO113 := n1_
             have HO119 := n2_
             have BK101 := n3_
             have BK102 := n4_
             have BK116 := n5_
             have BK121 := n6_
             have HB := n7_
             clear n0_ n1_ n2_ n3_ n4_ n5_ n6_ n7_
             refine start_ (n := 11) (S := fun w' => w'.cell? ⟨gb101, 0, none⟩ = some (.int .i64 a0_0) ∧ w'.cell? ⟨gb101, 1, none⟩ = some (.int .i64 a0_1) ∧ w'.cell? ⟨gb101, 2, none⟩ = some (.int .i64 a0_2) ∧ w'.cell? ⟨gb121, 0, none⟩ = some (.slice Ao58 t117.length co58) ∧ w'.cell? ⟨gb121, 1, none⟩ = some (.int .i64 t120)) (ds := []) (rlf12 [0, 11]) (by kernel_rfl) rfl rfl ⟨(blk_cell BK101.out 0).trans rfl, (blk_cell BK101.out 1).trans rfl, (blk_cell BK101.out 2).trans rfl, (blk_cell BK121.out 0).trans rfl, (blk_cell BK121.out 1).trans rfl⟩ (fun hHeld => ?_); refine with_tabW laws_FnExactLockFail.tab7 laws_FnExactLockFail.bits7 (fun HT_ HW_ => ?_)
             generalize w63.drew = w64 at HO109 HO113 HO119 BK101 BK102 BK116 BK121 HB hHeld ⊢
             refine pure_ (i := 3) (N := some 38) (v := ?_) (a' := ?_) (rlf12 [0, 3, 1, 7]) rfl rfl (any_of HT_.out (by kernel_rfl)) (fun _ _ _ h => h) (Or.inl ⟨by rfl, ?_⟩) ?_ ?_
             rotate_left
             ·
              intro w'
              go_simp
              with_reducible rfl
             rotate_left
             ·
              exact qsf12
             refine take_ (i := 0) (N := some 35) (v := ?_) (a' := ?_) (rlf12 [1, 2, 1, 7]) rfl rfl (take_ofW HT_.out HW_.out (by kernel_rfl)) (fun _ _ _ h => h) (Or.inl ⟨by rfl, ?_⟩) hHeld ?_ ?_
             rotate_left
             ·
              rintro w' ⟨s0, s1, s2, s3, s4⟩
              go_simp
              with_reducible rfl
             rotate_left
             ·
              exact qsf12
             refine take_ (i := 2) (N := some 37) (v := ?_) (a' := ?_) (rlf12 [1, 1, 2, 7]) rfl rfl (take_ofW HT_.out HW_.out (by kernel_rfl)) (fun _ _ _ h => h) (Or.inl ⟨by rfl, ?_⟩) hHeld ?_ ?_
             rotate_left
             ·
              rintro w' ⟨s0, s1, s2, s3, s4⟩
              go_simp
              with_reducible rfl
             rotate_left
             ·
              exact qsf12
             refine join_ (σ := Value × Nat) 2 (rlf12 [9, 2]) (fun s_ => [(36, .agg #[.int .i64 t122, .int .i64 t123, .int .i64 t124]), (39, .tuple #[.agg #[s_.1, .int .i64 t128], .bool t129]), (11, .pointer (some ⟨s_.2, 0, none⟩)), (34, .tuple #[.agg #[s_.1, .int .i64 t128], .bool t129]), (40, .agg #[s_.1, .int .i64 t128]), (41, .bool t129)]) (fun s_ w' => (w'.cell? ⟨gb101, 0, none⟩ = some (.int .i64 a0_0) ∧ w'.cell? ⟨gb101, 1, none⟩ = some (.int .i64 a0_1) ∧ w'.cell? ⟨gb101, 2, none⟩ = some (.int .i64 a0_2) ∧ w'.cell? ⟨gb121, 0, none⟩ = some (.slice Ao58 t117.length co58) ∧ w'.cell? ⟨gb121, 1, none⟩ = some (.int .i64 t120)) ∧ (Kd.R (Kd.int .i64) 3 w' w.heap.size (fun k_ => some k_ ≠ (.slice Ao51 t111.length co51 : Value).ownBlock ∧ some k_ ≠ (.slice Ao58 t117.length co58 : Value).ownBlock ∧ some k_ ≠ (s_.1 : Value).ownBlock) v108 t107) ∧ (Kd.R (Kd.int .i64) 3 w' w.heap.size (fun k_ => some k_ ≠ (v108 : Value).ownBlock ∧ some k_ ≠ (.slice Ao58 t117.length co58 : Value).ownBlock ∧ some k_ ≠ (s_.1 : Value).ownBlock) (.slice Ao51 t111.length co51) t111) ∧ (Kd.R (Kd.int .i64) 3 w' w.heap.size (fun k_ => some k_ ≠ (v108 : Value).ownBlock ∧ some k_ ≠ (.slice Ao51 t111.length co51 : Value).ownBlock ∧ some k_ ≠ (s_.1 : Value).ownBlock) (.slice Ao58 t117.length co58) t117) ∧ (Kd.R (Kd.int .i64) 3 w' w.heap.size (fun k_ => some k_ ≠ (v108 : Value).ownBlock ∧ some k_ ≠ (.slice Ao51 t111.length co51 : Value).ownBlock ∧ some k_ ≠ (.slice Ao58 t117.length co58 : Value).ownBlock) s_.1 t125) ∧ (w'.heap[gb101]? = some (.cells #[.int .i64 a0_0, .int .i64 a0_1, .int .i64 a0_2] 44 (0, 0))) ∧ (w'.heap[gb102]? = some (.cells #[.slice A1_0 l1_0.length c1_0, .int .i64 a1_1] 27 (0, 0))) ∧ (w'.heap[gb116]? = some (.cells #[.slice Ao51 t111.length co51, .int .i64 t114] 30 (0, 0))) ∧ (w'.heap[gb121]? = some (.cells #[.slice Ao58 t117.length co58, .int .i64 t120] 30 (0, 0))) ∧ (w'.heap[s_.2]? = some (.cells #[.slice none 0 0, .int .i64 0] 30 (0, 0))) ∧ (w.heap.size ≤ s_.2) ∧ (w.heap.size ≤ s_.2) ∧ (gb101 ≠ s_.2) ∧ (s_.2 ≠ gb101) ∧ (gb102 ≠ s_.2) ∧ (s_.2 ≠ gb102) ∧ (gb116 ≠ s_.2) ∧ (s_.2 ≠ gb116) ∧ (gb121 ≠ s_.2) ∧ (s_.2 ≠ gb121) ∧ (Below w.heap.size w w')) ?_ ?_
             rotate_left
             ·
              intro hCont
              refine two_ (i := 1) (j := 8) (Ni := some 36) (Nj := some 11) (rlf12 [4, 7]) (rlf12 [1, 1, 2, 4, 1, 2]) rfl rfl rfl rfl (two_of HT_.out (by kernel_rfl)) (by decide) (by decide) (fun K hK => ?_) (fun K hK => ?_)
              ·
               skip
               refine goes_ Try.func31 (by kernel_rfl) rfl #[.agg #[.int .i64 a0_0, .int .i64 a0_1, .int .i64 a0_2]] (by rfl) rfl rfl qff12 ?_
               with_reducible refine (laws_toLockRule.calls a0_0 a0_1 a0_2 t122 t123 t124 _ A14.out).mono ?_
               rintro e w65 ⟨rfl, hb⟩
               refine ⟨_, rfl, ?_⟩
               have n0_ := Aside0.mk (Kd.R_below (qrf12 HO109.out) hb)
               have n1_ := Aside0.mk (Kd.R_below (qrf12 HO113.out) hb)
               have n2_ := Aside0.mk (Kd.R_below (qrf12 HO119.out) hb)
               have n3_ := Aside0.mk (blk_below (g := gb101) (o := .cells #[.int .i64 a0_0, .int .i64 a0_1, .int .i64 a0_2] 44 (0, 0)) (qbf12 BK101.out) hb)
               have n4_ := Aside0.mk (blk_below (g := gb102) (o := .cells #[.slice A1_0 l1_0.length c1_0, .int .i64 a1_1] 27 (0, 0)) (qbf12 BK102.out) hb)
               have n5_ := Aside0.mk (blk_below (g := gb116) (o := .cells #[.slice Ao51 t111.length co51, .int .i64 t114] 30 (0, 0)) (qbf12 BK116.out) hb)
               have n6_ := Aside0.mk (blk_below (g := gb121) (o := .cells #[.slice Ao58 t117.length co58, .int .i64 t120] 30 (0, 0)) (qbf12 BK121.out) hb)
               have n7_ := Aside0.mk (below_step (qw4f12 HB.out GE101.out GE102.out GE116.out GE121.out) hb)
               clear HO109
               clear HO113
               clear HO119
               clear BK101
               clear BK102
               clear BK116
               clear BK121
               clear HB
               have HO109 := n0_
               have HO113 := n1_
               have HO119 := n2_
               have BK101 := n3_
               have BK102 := n4_
               have BK116 := n5_
               have BK121 := n6_
               have HB := n7_
               clear n0_ n1_ n2_ n3_ n4_ n5_ n6_ n7_
               (try clear hb)
               (try clear hb2)
               (try clear hk)
               (try clear hi)
               refine hK.out _ _ ⟨(blk_cell BK101.out 0).trans rfl, (blk_cell BK101.out 1).trans rfl, (blk_cell BK101.out 2).trans rfl, (blk_cell BK121.out 0).trans rfl, (blk_cell BK121.out 1).trans rfl⟩ (fun hHeld => ?_)
               clear hK K
               refine norm_ (a' := ?_) ?_ ?_
               rotate_left
               ·
                show Act.put _ (some 36) _ = _
                exact qsf12
               refine two_ (i := 4) (j := 8) (Ni := some 39) (Nj := some 11) (rlf12 [5, 6]) (rlf12 [4, 4, 1, 2]) rfl rfl rfl rfl (two_of HT_.out (by kernel_rfl)) (by decide) (by decide) (fun K hK => ?_) (fun K hK => ?_)
               ·
                skip
                refine goes_ Try.func29 (by kernel_rfl) rfl #[.agg #[.int .i64 t122, .int .i64 t123, .int .i64 t124], .agg #[.slice Ao58 t117.length co58, .int .i64 t120], .int .i64 a2] (by rfl) rfl rfl qff12 ?_
                with_reducible refine (impl_LockFail.calls k t122 t123 t124 _ _ t117 t120 a2 t125 t128 t129 _ ?side1 ?side2 A15.out).mono ?_
                (case side1 => repeat (first | exact (Kd.R_reads' HO119.out).2.2 | (with_reducible refine Kd.C_alloc ?_ _) | (with_reducible refine Kd.C_drewN ?_ _) | (with_reducible refine Kd.C_drew ?_)))
                (case side2 => exact (Kd.R_reads' HO119.out).2.1)
                rintro e w66 ⟨v126, rfl, ho0, hb⟩
                refine ⟨_, rfl, ?_⟩
                have n0_ := Aside0.mk (Kd.R_elder' (qrf12 HO109.out) (Kd.R_base ho0) hb)
                have n1_ := Aside0.mk (Kd.R_elder' (qrf12 HO113.out) (Kd.R_base ho0) hb)
                have n2_ := Aside0.mk (Kd.R_elder' (qrf12 HO119.out) (Kd.R_base ho0) hb)
                have n3_ := Aside0.mk (Kd.R_lower (Kd.R_new' (Kd.R_new' (Kd.R_new' ho0 (Kd.R_lt (qrf12 HO109.out))) (Kd.R_lt (qrf12 HO113.out))) (Kd.R_lt (qrf12 HO119.out))) (below_size (qw4f12 HB.out GE101.out GE102.out GE116.out GE121.out)))
                have n4_ := Aside0.mk (blk_below (g := gb101) (o := .cells #[.int .i64 a0_0, .int .i64 a0_1, .int .i64 a0_2] 44 (0, 0)) (qbf12 BK101.out) hb)
                have n5_ := Aside0.mk (blk_below (g := gb102) (o := .cells #[.slice A1_0 l1_0.length c1_0, .int .i64 a1_1] 27 (0, 0)) (qbf12 BK102.out) hb)
                have n6_ := Aside0.mk (blk_below (g := gb116) (o := .cells #[.slice Ao51 t111.length co51, .int .i64 t114] 30 (0, 0)) (qbf12 BK116.out) hb)
                have n7_ := Aside0.mk (blk_below (g := gb121) (o := .cells #[.slice Ao58 t117.length co58, .int .i64 t120] 30 (0, 0)) (qbf12 BK121.out) hb)
                have n8_ := Aside0.mk (below_step (qw4f12 HB.out GE101.out GE102.out GE116.out GE121.out) hb)
                clear HO109
                clear HO113
                clear HO119
                clear BK101
                clear BK102
                clear BK116
                clear BK121
                clear HB
                have HO109 := n0_
                have HO113 := n1_
                have HO119 := n2_
                have HO127 := n3_
                have BK101 := n4_
                have BK102 := n5_
                have BK116 := n6_
                have BK121 := n7_
                have HB := n8_
                clear n0_ n1_ n2_ n3_ n4_ n5_ n6_ n7_ n8_
                (try clear hb)
                (try clear hb2)
                (try clear hk)
                (try clear hi)
                (try clear ho0)
                refine hK.out _ _ ⟨(blk_cell BK101.out 0).trans rfl, (blk_cell BK101.out 1).trans rfl, (blk_cell BK101.out 2).trans rfl, (blk_cell BK121.out 0).trans rfl, (blk_cell BK121.out 1).trans rfl⟩ (fun hHeld => ?_)
                clear hK K
                refine norm_ (a' := ?_) ?_ ?_
                rotate_left
                ·
                 show Act.put _ (some 39) _ = _
                 exact qsf12
                refine pure_ (i := 5) (N := some 34) (v := ?_) (a' := ?_) (rlf12 [6, 5]) rfl rfl (any_of HT_.out (by kernel_rfl)) (fun _ _ _ h => h) (Or.inl ⟨by rfl, ?_⟩) ?_ ?_
                rotate_left
                ·
                 intro w'
                 go_simp
                 with_reducible rfl
                rotate_left
                ·
                 exact qsf12
                refine pure_ (i := 6) (N := some 40) (v := ?_) (a' := ?_) (rlf12 [7, 4]) rfl rfl (any_of HT_.out (by kernel_rfl)) (fun _ _ _ h => h) (Or.inl ⟨by rfl, ?_⟩) ?_ ?_
                rotate_left
                ·
                 intro w'
                 go_simp
                 with_reducible rfl
                rotate_left
                ·
                 exact qsf12
                refine pure_ (i := 7) (N := some 41) (v := ?_) (a' := ?_) (rlf12 [8, 3]) rfl rfl (any_of HT_.out (by kernel_rfl)) (fun _ _ _ h => h) (Or.inl ⟨by rfl, ?_⟩) ?_ ?_
                rotate_left
                ·
                 intro w'
                 go_simp
                 with_reducible rfl
                rotate_left
                ·
                 exact qsf12
                refine one_ (i := 8) (N := some 11) (rlf12 [9, 2]) rfl rfl (one_of HT_.out (by kernel_rfl)) (by decide) (fun K hK => ?_)
                refine box_step ?hg (N := 11) ?hd (cs := #[.slice none 0 0, .int .i64 0]) (t := 30) ?hr ?_; (case hd => rfl); (case hg => rfl); (case hr => first | (go_simp; done) | (go_simp; rfl))
                intro gb130 hg w67 hbox hb
                have n0_ := Aside0.mk (Kd.R_below (qrf12 HO109.out) hb)
                have n1_ := Aside0.mk (Kd.R_below (qrf12 HO113.out) hb)
                have n2_ := Aside0.mk (Kd.R_below (qrf12 HO119.out) hb)
                have n3_ := Aside0.mk (Kd.R_below (qrf12 HO127.out) hb)
                have n4_ := Aside0.mk (blk_below (g := gb101) (o := .cells #[.int .i64 a0_0, .int .i64 a0_1, .int .i64 a0_2] 44 (0, 0)) (qbf12 BK101.out) hb)
                have n5_ := Aside0.mk (blk_below (g := gb102) (o := .cells #[.slice A1_0 l1_0.length c1_0, .int .i64 a1_1] 27 (0, 0)) (qbf12 BK102.out) hb)
                have n6_ := Aside0.mk (blk_below (g := gb116) (o := .cells #[.slice Ao51 t111.length co51, .int .i64 t114] 30 (0, 0)) (qbf12 BK116.out) hb)
                have n7_ := Aside0.mk (blk_below (g := gb121) (o := .cells #[.slice Ao58 t117.length co58, .int .i64 t120] 30 (0, 0)) (qbf12 BK121.out) hb)
                have n8_ := Aside0.mk (below_step (qw4f12 HB.out GE101.out GE102.out GE116.out GE121.out) hb)
                have n9_ := Aside0.mk (hbox)
                have n10_ := Aside0.mk ((by rw [hg]; exact (below_size (qw4f12 HB.out GE101.out GE102.out GE116.out GE121.out)) : w.heap.size ≤ gb130))
                have n11_ := Aside0.mk ((by rw [hg]; exact (below_size (qw4f12 HB.out GE101.out GE102.out GE116.out GE121.out)) : w.heap.size ≤ gb130))
                have n12_ := Aside0.mk ((by rw [hg]; exact Nat.ne_of_lt (blk_lt (g := gb101) (o := .cells #[.int .i64 a0_0, .int .i64 a0_1, .int .i64 a0_2] 44 (0, 0)) (qbf12 BK101.out)) : gb101 ≠ gb130))
                have n13_ := Aside0.mk ((by rw [hg]; exact Nat.ne_of_gt (blk_lt (g := gb101) (o := .cells #[.int .i64 a0_0, .int .i64 a0_1, .int .i64 a0_2] 44 (0, 0)) (qbf12 BK101.out)) : gb130 ≠ gb101))
                have n14_ := Aside0.mk ((by rw [hg]; exact Nat.ne_of_lt (blk_lt (g := gb102) (o := .cells #[.slice A1_0 l1_0.length c1_0, .int .i64 a1_1] 27 (0, 0)) (qbf12 BK102.out)) : gb102 ≠ gb130))
                have n15_ := Aside0.mk ((by rw [hg]; exact Nat.ne_of_gt (blk_lt (g := gb102) (o := .cells #[.slice A1_0 l1_0.length c1_0, .int .i64 a1_1] 27 (0, 0)) (qbf12 BK102.out)) : gb130 ≠ gb102))
                have n16_ := Aside0.mk ((by rw [hg]; exact Nat.ne_of_lt (blk_lt (g := gb116) (o := .cells #[.slice Ao51 t111.length co51, .int .i64 t114] 30 (0, 0)) (qbf12 BK116.out)) : gb116 ≠ gb130))
                have n17_ := Aside0.mk ((by rw [hg]; exact Nat.ne_of_gt (blk_lt (g := gb116) (o := .cells #[.slice Ao51 t111.length co51, .int .i64 t114] 30 (0, 0)) (qbf12 BK116.out)) : gb130 ≠ gb116))
                have n18_ := Aside0.mk ((by rw [hg]; exact Nat.ne_of_lt (blk_lt (g := gb121) (o := .cells #[.slice Ao58 t117.length co58, .int .i64 t120] 30 (0, 0)) (qbf12 BK121.out)) : gb121 ≠ gb130))
                have n19_ := Aside0.mk ((by rw [hg]; exact Nat.ne_of_gt (blk_lt (g := gb121) (o := .cells #[.slice Ao58 t117.length co58, .int .i64 t120] 30 (0, 0)) (qbf12 BK121.out)) : gb130 ≠ gb121))
                clear HO109
                clear HO113
                clear HO119
                clear HO127
                clear BK101
                clear BK102
                clear BK116
                clear BK121
                clear HB
                have HO109 := n0_
                have HO113 := n1_
                have HO119 := n2_
                have HO127 := n3_
                have BK101 := n4_
                have BK102 := n5_
                have BK116 := n6_
                have BK121 := n7_
                have HB := n8_
                have BK130 := n9_
                have GW130 := n10_
                have GE130 := n11_
                have NB101_130 := n12_
                have NB130_101 := n13_
                have NB102_130 := n14_
                have NB130_102 := n15_
                have NB116_130 := n16_
                have NB130_116 := n17_
                have NB121_130 := n18_
                have NB130_121 := n19_
                clear n0_ n1_ n2_ n3_ n4_ n5_ n6_ n7_ n8_ n9_ n10_ n11_ n12_ n13_ n14_ n15_ n16_ n17_ n18_ n19_
                clear hb hbox hg
                refine hK.out _ _ ⟨(blk_cell BK101.out 0).trans rfl, (blk_cell BK101.out 1).trans rfl, (blk_cell BK101.out 2).trans rfl, (blk_cell BK121.out 0).trans rfl, (blk_cell BK121.out 1).trans rfl⟩ (fun hHeld => ?_)
                clear hK K
                refine norm_ (a' := ?_) ?_ ?_
                rotate_left
                ·
                 show Act.put _ (some 11) _ = _
                 exact qsf12
                exact norm_ (by simp only [putAll, Act.put, List.setIfInBounds_toArray, List.set_cons_zero, List.set_cons_succ]) (hCont (v126, gb130) _ ⟨hHeld, (by (with_reducible repeat (first | apply Kd.R_alloc | apply Kd.R_drewN | apply Kd.R_drew)); exact Kd.R_mono HO109.out (fun _ hk => ⟨hk.1.1, ⟨hk.1.2, hk.2⟩⟩)), (by (with_reducible repeat (first | apply Kd.R_alloc | apply Kd.R_drewN | apply Kd.R_drew)); exact Kd.R_mono HO113.out (fun _ hk => ⟨hk.1.1, ⟨hk.1.2, hk.2⟩⟩)), (by (with_reducible repeat (first | apply Kd.R_alloc | apply Kd.R_drewN | apply Kd.R_drew)); exact Kd.R_mono HO119.out (fun _ hk => ⟨hk.1.1, ⟨hk.1.2, hk.2⟩⟩)), (by (with_reducible repeat (first | apply Kd.R_alloc | apply Kd.R_drewN | apply Kd.R_drew)); exact Kd.R_mono HO127.out (fun _ hk => ⟨hk.1.1.2, ⟨hk.1.2, hk.2⟩⟩)), (qbf12 BK101.out), (qbf12 BK102.out), (qbf12 BK116.out), (qbf12 BK121.out), (qbf12 BK130.out), GW130.out, GE130.out, NB101_130.out, NB130_101.out, NB102_130.out, NB130_102.out, NB116_130.out, NB130_116.out, NB121_130.out, NB130_121.out, (qw5f12 HB.out GE101.out GE102.out GE116.out GE121.out GE130.out)⟩)
               ·
                skip
                refine box_step ?hg (N := 11) ?hd (cs := #[.slice none 0 0, .int .i64 0]) (t := 30) ?hr ?_; (case hd => rfl); (case hg => rfl); (case hr => first | (go_simp; done) | (go_simp; rfl))
                intro gb130 hg w66 hbox hb
                have n0_ := Aside0.mk (Kd.R_below (qrf12 HO109.out) hb)
                have n1_ := Aside0.mk (Kd.R_below (qrf12 HO113.out) hb)
                have n2_ := Aside0.mk (Kd.R_below (qrf12 HO119.out) hb)
                have n3_ := Aside0.mk (blk_below (g := gb101) (o := .cells #[.int .i64 a0_0, .int .i64 a0_1, .int .i64 a0_2] 44 (0, 0)) (qbf12 BK101.out) hb)
                have n4_ := Aside0.mk (blk_below (g := gb102) (o := .cells #[.slice A1_0 l1_0.length c1_0, .int .i64 a1_1] 27 (0, 0)) (qbf12 BK102.out) hb)
                have n5_ := Aside0.mk (blk_below (g := gb116) (o := .cells #[.slice Ao51 t111.length co51, .int .i64 t114] 30 (0, 0)) (qbf12 BK116.out) hb)
                have n6_ := Aside0.mk (blk_below (g := gb121) (o := .cells #[.slice Ao58 t117.length co58, .int .i64 t120] 30 (0, 0)) (qbf12 BK121.out) hb)
                have n7_ := Aside0.mk (below_step (qw4f12 HB.out GE101.out GE102.out GE116.out GE121.out) hb)
                have n8_ := Aside0.mk (hbox)
                have n9_ := Aside0.mk ((by rw [hg]; exact (below_size (qw4f12 HB.out GE101.out GE102.out GE116.out GE121.out)) : w.heap.size ≤ gb130))
                have n10_ := Aside0.mk ((by rw [hg]; exact (below_size (qw4f12 HB.out GE101.out GE102.out GE116.out GE121.out)) : w.heap.size ≤ gb130))
                have n11_ := Aside0.mk ((by rw [hg]; exact Nat.ne_of_lt (blk_lt (g := gb101) (o := .cells #[.int .i64 a0_0, .int .i64 a0_1, .int .i64 a0_2] 44 (0, 0)) (qbf12 BK101.out)) : gb101 ≠ gb130))
                have n12_ := Aside0.mk ((by rw [hg]; exact Nat.ne_of_gt (blk_lt (g := gb101) (o := .cells #[.int .i64 a0_0, .int .i64 a0_1, .int .i64 a0_2] 44 (0, 0)) (qbf12 BK101.out)) : gb130 ≠ gb101))
                have n13_ := Aside0.mk ((by rw [hg]; exact Nat.ne_of_lt (blk_lt (g := gb102) (o := .cells #[.slice A1_0 l1_0.length c1_0, .int .i64 a1_1] 27 (0, 0)) (qbf12 BK102.out)) : gb102 ≠ gb130))
                have n14_ := Aside0.mk ((by rw [hg]; exact Nat.ne_of_gt (blk_lt (g := gb102) (o := .cells #[.slice A1_0 l1_0.length c1_0, .int .i64 a1_1] 27 (0, 0)) (qbf12 BK102.out)) : gb130 ≠ gb102))
                have n15_ := Aside0.mk ((by rw [hg]; exact Nat.ne_of_lt (blk_lt (g := gb116) (o := .cells #[.slice Ao51 t111.length co51, .int .i64 t114] 30 (0, 0)) (qbf12 BK116.out)) : gb116 ≠ gb130))
                have n16_ := Aside0.mk ((by rw [hg]; exact Nat.ne_of_gt (blk_lt (g := gb116) (o := .cells #[.slice Ao51 t111.length co51, .int .i64 t114] 30 (0, 0)) (qbf12 BK116.out)) : gb130 ≠ gb116))
                have n17_ := Aside0.mk ((by rw [hg]; exact Nat.ne_of_lt (blk_lt (g := gb121) (o := .cells #[.slice Ao58 t117.length co58, .int .i64 t120] 30 (0, 0)) (qbf12 BK121.out)) : gb121 ≠ gb130))
                have n18_ := Aside0.mk ((by rw [hg]; exact Nat.ne_of_gt (blk_lt (g := gb121) (o := .cells #[.slice Ao58 t117.length co58, .int .i64 t120] 30 (0, 0)) (qbf12 BK121.out)) : gb130 ≠ gb121))
                clear HO109
                clear HO113
                clear HO119
                clear BK101
                clear BK102
                clear BK116
                clear BK121
                clear HB
                have HO109 := n0_
                have HO113 := n1_
                have HO119 := n2_
                have BK101 := n3_
                have BK102 := n4_
                have BK116 := n5_
                have BK121 := n6_
                have HB := n7_
                have BK130 := n8_
                have GW130 := n9_
                have GE130 := n10_
                have NB101_130 := n11_
                have NB130_101 := n12_
                have NB102_130 := n13_
                have NB130_102 := n14_
                have NB116_130 := n15_
                have NB130_116 := n16_
                have NB121_130 := n17_
                have NB130_121 := n18_
                clear n0_ n1_ n2_ n3_ n4_ n5_ n6_ n7_ n8_ n9_ n10_ n11_ n12_ n13_ n14_ n15_ n16_ n17_ n18_
                clear hb hbox hg
                refine hK.out _ _ ⟨(blk_cell BK101.out 0).trans rfl, (blk_cell BK101.out 1).trans rfl, (blk_cell BK101.out 2).trans rfl, (blk_cell BK121.out 0).trans rfl, (blk_cell BK121.out 1).trans rfl⟩ (fun hHeld => ?_)
                clear hK K
                refine norm_ (a' := ?_) ?_ ?_
                rotate_left
                ·
                 show Act.put _ (some 11) _ = _
                 exact qsf12
                refine one_ (i := 4) (N := some 39) (rlf12 [5, 3, 1, 2]) rfl rfl (one_of HT_.out (by kernel_rfl)) (by decide) (fun K hK => ?_)
                refine goes_ Try.func29 (by kernel_rfl) rfl #[.agg #[.int .i64 t122, .int .i64 t123, .int .i64 t124], .agg #[.slice Ao58 t117.length co58, .int .i64 t120], .int .i64 a2] (by rfl) rfl rfl qff12 ?_
                with_reducible refine (impl_LockFail.calls k t122 t123 t124 _ _ t117 t120 a2 t125 t128 t129 _ ?side1 ?side2 A15.out).mono ?_
                (case side1 => repeat (first | exact (Kd.R_reads' HO119.out).2.2 | (with_reducible refine Kd.C_alloc ?_ _) | (with_reducible refine Kd.C_drewN ?_ _) | (with_reducible refine Kd.C_drew ?_)))
                (case side2 => exact (Kd.R_reads' HO119.out).2.1)
                rintro e w67 ⟨v126, rfl, ho0, hb⟩
                refine ⟨_, rfl, ?_⟩
                have n0_ := Aside0.mk (Kd.R_elder' (qrf12 HO109.out) (Kd.R_base ho0) hb)
                have n1_ := Aside0.mk (Kd.R_elder' (qrf12 HO113.out) (Kd.R_base ho0) hb)
                have n2_ := Aside0.mk (Kd.R_elder' (qrf12 HO119.out) (Kd.R_base ho0) hb)
                have n3_ := Aside0.mk (Kd.R_lower (Kd.R_new' (Kd.R_new' (Kd.R_new' ho0 (Kd.R_lt (qrf12 HO109.out))) (Kd.R_lt (qrf12 HO113.out))) (Kd.R_lt (qrf12 HO119.out))) (below_size (qw5f12 HB.out GE101.out GE102.out GE116.out GE121.out GE130.out)))
                have n4_ := Aside0.mk (blk_below (g := gb101) (o := .cells #[.int .i64 a0_0, .int .i64 a0_1, .int .i64 a0_2] 44 (0, 0)) (qbf12 BK101.out) hb)
                have n5_ := Aside0.mk (blk_below (g := gb102) (o := .cells #[.slice A1_0 l1_0.length c1_0, .int .i64 a1_1] 27 (0, 0)) (qbf12 BK102.out) hb)
                have n6_ := Aside0.mk (blk_below (g := gb116) (o := .cells #[.slice Ao51 t111.length co51, .int .i64 t114] 30 (0, 0)) (qbf12 BK116.out) hb)
                have n7_ := Aside0.mk (blk_below (g := gb121) (o := .cells #[.slice Ao58 t117.length co58, .int .i64 t120] 30 (0, 0)) (qbf12 BK121.out) hb)
                have n8_ := Aside0.mk (blk_below (g := gb130) (o := .cells #[.slice none 0 0, .int .i64 0] 30 (0, 0)) (qbf12 BK130.out) hb)
                have n9_ := Aside0.mk (below_step (qw5f12 HB.out GE101.out GE102.out GE116.out GE121.out GE130.out) hb)
                clear HO109
                clear HO113
                clear HO119
                clear BK101
                clear BK102
                clear BK116
                clear BK121
                clear BK130
                clear HB
                have HO109 := n0_
                have HO113 := n1_
                have HO119 := n2_
                have HO127 := n3_
                have BK101 := n4_
                have BK102 := n5_
                have BK116 := n6_
                have BK121 := n7_
                have BK130 := n8_
                have HB := n9_
                clear n0_ n1_ n2_ n3_ n4_ n5_ n6_ n7_ n8_ n9_
                (try clear hb)
                (try clear hb2)
                (try clear hk)
                (try clear hi)
                (try clear ho0)
                refine hK.out _ _ ⟨(blk_cell BK101.out 0).trans rfl, (blk_cell BK101.out 1).trans rfl, (blk_cell BK101.out 2).trans rfl, (blk_cell BK121.out 0).trans rfl, (blk_cell BK121.out 1).trans rfl⟩ (fun hHeld => ?_)
                clear hK K
                refine norm_ (a' := ?_) ?_ ?_
                rotate_left
                ·
                 show Act.put _ (some 39) _ = _
                 exact qsf12
                refine pure_ (i := 5) (N := some 34) (v := ?_) (a' := ?_) (rlf12 [6, 2, 1, 2]) rfl rfl (any_of HT_.out (by kernel_rfl)) (fun _ _ _ h => h) (Or.inl ⟨by rfl, ?_⟩) ?_ ?_
                rotate_left
                ·
                 intro w'
                 go_simp
                 with_reducible rfl
                rotate_left
                ·
                 exact qsf12
                refine pure_ (i := 6) (N := some 40) (v := ?_) (a' := ?_) (rlf12 [7, 1, 1, 2]) rfl rfl (any_of HT_.out (by kernel_rfl)) (fun _ _ _ h => h) (Or.inl ⟨by rfl, ?_⟩) ?_ ?_
                rotate_left
                ·
                 intro w'
                 go_simp
                 with_reducible rfl
                rotate_left
                ·
                 exact qsf12
                refine pure_ (i := 7) (N := some 41) (v := ?_) (a' := ?_) (rlf12 [9, 2]) rfl rfl (any_of HT_.out (by kernel_rfl)) (fun _ _ _ h => h) (Or.inl ⟨by rfl, ?_⟩) ?_ ?_
                rotate_left
                ·
                 intro w'
                 go_simp
                 with_reducible rfl
                rotate_left
                ·
                 exact qsf12
                exact norm_ (by simp only [putAll, Act.put, List.setIfInBounds_toArray, List.set_cons_zero, List.set_cons_succ]) (hCont (v126, gb130) _ ⟨hHeld, (by (with_reducible repeat (first | apply Kd.R_alloc | apply Kd.R_drewN | apply Kd.R_drew)); exact Kd.R_mono HO109.out (fun _ hk => ⟨hk.1.1, ⟨hk.1.2, hk.2⟩⟩)), (by (with_reducible repeat (first | apply Kd.R_alloc | apply Kd.R_drewN | apply Kd.R_drew)); exact Kd.R_mono HO113.out (fun _ hk => ⟨hk.1.1, ⟨hk.1.2, hk.2⟩⟩)), (by (with_reducible repeat (first | apply Kd.R_alloc | apply Kd.R_drewN | apply Kd.R_drew)); exact Kd.R_mono HO119.out (fun _ hk => ⟨hk.1.1, ⟨hk.1.2, hk.2⟩⟩)), (by (with_reducible repeat (first | apply Kd.R_alloc | apply Kd.R_drewN | apply Kd.R_drew)); exact Kd.R_mono HO127.out (fun _ hk => ⟨hk.1.1.2, ⟨hk.1.2, hk.2⟩⟩)), (qbf12 BK101.out), (qbf12 BK102.out), (qbf12 BK116.out), (qbf12 BK121.out), (qbf12 BK130.out), GW130.out, GE130.out, NB101_130.out, NB130_101.out, NB102_130.out, NB130_102.out, NB116_130.out, NB130_116.out, NB121_130.out, NB130_121.out, (qw5f12 HB.out GE101.out GE102.out GE116.out GE121.out GE130.out)⟩)
              ·
               skip
               refine box_step ?hg (N := 11) ?hd (cs := #[.slice none 0 0, .int .i64 0]) (t := 30) ?hr ?_; (case hd => rfl); (case hg => rfl); (case hr => first | (go_simp; done) | (go_simp; rfl))
               intro gb130 hg w65 hbox hb
               have n0_ := Aside0.mk (Kd.R_below (qrf12 HO109.out) hb)
               have n1_ := Aside0.mk (Kd.R_below (qrf12 HO113.out) hb)
               have n2_ := Aside0.mk (Kd.R_below (qrf12 HO119.out) hb)
               have n3_ := Aside0.mk (blk_below (g := gb101) (o := .cells #[.int .i64 a0_0, .int .i64 a0_1, .int .i64 a0_2] 44 (0, 0)) (qbf12 BK101.out) hb)
               have n4_ := Aside0.mk (blk_below (g := gb102) (o := .cells #[.slice A1_0 l1_0.length c1_0, .int .i64 a1_1] 27 (0, 0)) (qbf12 BK102.out) hb)
               have n5_ := Aside0.mk (blk_below (g := gb116) (o := .cells #[.slice Ao51 t111.length co51, .int .i64 t114] 30 (0, 0)) (qbf12 BK116.out) hb)
               have n6_ := Aside0.mk (blk_below (g := gb121) (o := .cells #[.slice Ao58 t117.length co58, .int .i64 t120] 30 (0, 0)) (qbf12 BK121.out) hb)
               have n7_ := Aside0.mk (below_step (qw4f12 HB.out GE101.out GE102.out GE116.out GE121.out) hb)
               have n8_ := Aside0.mk (hbox)
               have n9_ := Aside0.mk ((by rw [hg]; exact (below_size (qw4f12 HB.out GE101.out GE102.out GE116.out GE121.out)) : w.heap.size ≤ gb130))
               have n10_ := Aside0.mk ((by rw [hg]; exact (below_size (qw4f12 HB.out GE101.out GE102.out GE116.out GE121.out)) : w.heap.size ≤ gb130))
               have n11_ := Aside0.mk ((by rw [hg]; exact Nat.ne_of_lt (blk_lt (g := gb101) (o := .cells #[.int .i64 a0_0, .int .i64 a0_1, .int .i64 a0_2] 44 (0, 0)) (qbf12 BK101.out)) : gb101 ≠ gb130))
               have n12_ := Aside0.mk ((by rw [hg]; exact Nat.ne_of_gt (blk_lt (g := gb101) (o := .cells #[.int .i64 a0_0, .int .i64 a0_1, .int .i64 a0_2] 44 (0, 0)) (qbf12 BK101.out)) : gb130 ≠ gb101))
               have n13_ := Aside0.mk ((by rw [hg]; exact Nat.ne_of_lt (blk_lt (g := gb102) (o := .cells #[.slice A1_0 l1_0.length c1_0, .int .i64 a1_1] 27 (0, 0)) (qbf12 BK102.out)) : gb102 ≠ gb130))
               have n14_ := Aside0.mk ((by rw [hg]; exact Nat.ne_of_gt (blk_lt (g := gb102) (o := .cells #[.slice A1_0 l1_0.length c1_0, .int .i64 a1_1] 27 (0, 0)) (qbf12 BK102.out)) : gb130 ≠ gb102))
               have n15_ := Aside0.mk ((by rw [hg]; exact Nat.ne_of_lt (blk_lt (g := gb116) (o := .cells #[.slice Ao51 t111.length co51, .int .i64 t114] 30 (0, 0)) (qbf12 BK116.out)) : gb116 ≠ gb130))
               have n16_ := Aside0.mk ((by rw [hg]; exact Nat.ne_of_gt (blk_lt (g := gb116) (o := .cells #[.slice Ao51 t111.length co51, .int .i64 t114] 30 (0, 0)) (qbf12 BK116.out)) : gb130 ≠ gb116))
               have n17_ := Aside0.mk ((by rw [hg]; exact Nat.ne_of_lt (blk_lt (g := gb121) (o := .cells #[.slice Ao58 t117.length co58, .int .i64 t120] 30 (0, 0)) (qbf12 BK121.out)) : gb121 ≠ gb130))
               have n18_ := Aside0.mk ((by rw [hg]; exact Nat.ne_of_gt (blk_lt (g := gb121) (o := .cells #[.slice Ao58 t117.length co58, .int .i64 t120] 30 (0, 0)) (qbf12 BK121.out)) : gb130 ≠ gb121))
               clear HO109
               clear HO113
               clear HO119
               clear BK101
               clear BK102
               clear BK116
               clear BK121
               clear HB
               have HO109 := n0_
               have HO113 := n1_
               have HO119 := n2_
               have BK101 := n3_
               have BK102 := n4_
               have BK116 := n5_
               have BK121 := n6_
               have HB := n7_
               have BK130 := n8_
               have GW130 := n9_
               have GE130 := n10_
               have NB101_130 := n11_
               have NB130_101 := n12_
               have NB102_130 := n13_
               have NB130_102 := n14_
               have NB116_130 := n15_
               have NB130_116 := n16_
               have NB121_130 := n17_
               have NB130_121 := n18_
               clear n0_ n1_ n2_ n3_ n4_ n5_ n6_ n7_ n8_ n9_ n10_ n11_ n12_ n13_ n14_ n15_ n16_ n17_ n18_
               clear hb hbox hg
               refine hK.out _ _ ⟨(blk_cell BK101.out 0).trans rfl, (blk_cell BK101.out 1).trans rfl, (blk_cell BK101.out 2).trans rfl, (blk_cell BK121.out 0).trans rfl, (blk_cell BK121.out 1).trans rfl⟩ (fun hHeld => ?_)
               clear hK K
               refine norm_ (a' := ?_) ?_ ?_
               rotate_left
               ·
                show Act.put _ (some 11) _ = _
                exact qsf12
               refine one_ (i := 1) (N := some 36) (rlf12 [4, 4, 1, 2]) rfl rfl (one_of HT_.out (by kernel_rfl)) (by decide) (fun K hK => ?_)
               refine goes_ Try.func31 (by kernel_rfl) rfl #[.agg #[.int .i64 a0_0, .int .i64 a0_1, .int .i64 a0_2]] (by rfl) rfl rfl qff12 ?_
               with_reducible refine (laws_toLockRule.calls a0_0 a0_1 a0_2 t122 t123 t124 _ A14.out).mono ?_
               rintro e w66 ⟨rfl, hb⟩
               refine ⟨_, rfl, ?_⟩
               have n0_ := Aside0.mk (Kd.R_below (qrf12 HO109.out) hb)
               have n1_ := Aside0.mk (Kd.R_below (qrf12 HO113.out) hb)
               have n2_ := Aside0.mk (Kd.R_below (qrf12 HO119.out) hb)
               have n3_ := Aside0.mk (blk_below (g := gb101) (o := .cells #[.int .i64 a0_0, .int .i64 a0_1, .int .i64 a0_2] 44 (0, 0)) (qbf12 BK101.out) hb)
               have n4_ := Aside0.mk (blk_below (g := gb102) (o := .cells #[.slice A1_0 l1_0.length c1_0, .int .i64 a1_1] 27 (0, 0)) (qbf12 BK102.out) hb)
               have n5_ := Aside0.mk (blk_below (g := gb116) (o := .cells #[.slice Ao51 t111.length co51, .int .i64 t114] 30 (0, 0)) (qbf12 BK116.out) hb)
               have n6_ := Aside0.mk (blk_below (g := gb121) (o := .cells #[.slice Ao58 t117.length co58, .int .i64 t120] 30 (0, 0)) (qbf12 BK121.out) hb)
               have n7_ := Aside0.mk (blk_below (g := gb130) (o := .cells #[.slice none 0 0, .int .i64 0] 30 (0, 0)) (qbf12 BK130.out) hb)
               have n8_ := Aside0.mk (below_step (qw5f12 HB.out GE101.out GE102.out GE116.out GE121.out GE130.out) hb)
               clear HO109
               clear HO113
               clear HO119
               clear BK101
               clear BK102
               clear BK116
               clear BK121
               clear BK130
               clear HB
               have HO109 := n0_
               have HO113 := n1_
               have HO119 := n2_
               have BK101 := n3_
               have BK102 := n4_
               have BK116 := n5_
               have BK121 := n6_
               have BK130 := n7_
               have HB := n8_
               clear n0_ n1_ n2_ n3_ n4_ n5_ n6_ n7_ n8_
               (try clear hb)
               (try clear hb2)
               (try clear hk)
               (try clear hi)
               refine hK.out _ _ ⟨(blk_cell BK101.out 0).trans rfl, (blk_cell BK101.out 1).trans rfl, (blk_cell BK101.out 2).trans rfl, (blk_cell BK121.out 0).trans rfl, (blk_cell BK121.out 1).trans rfl⟩ (fun hHeld => ?_)
               clear hK K
               refine norm_ (a' := ?_) ?_ ?_
               rotate_left
               ·
                show Act.put _ (some 36) _ = _
                exact qsf12
               refine one_ (i := 4) (N := some 39) (rlf12 [5, 3, 1, 2]) rfl rfl (one_of HT_.out (by kernel_rfl)) (by decide) (fun K hK => ?_)
               refine goes_ Try.func29 (by kernel_rfl) rfl #[.agg #[.int .i64 t122, .int .i64 t123, .int .i64 t124], .agg #[.slice Ao58 t117.length co58, .int .i64 t120], .int .i64 a2] (by rfl) rfl rfl qff12 ?_
               with_reducible refine (impl_LockFail.calls k t122 t123 t124 _ _ t117 t120 a2 t125 t128 t129 _ ?side1 ?side2 A15.out).mono ?_
               (case side1 => repeat (first | exact (Kd.R_reads' HO119.out).2.2 | (with_reducible refine Kd.C_alloc ?_ _) | (with_reducible refine Kd.C_drewN ?_ _) | (with_reducible refine Kd.C_drew ?_)))
               (case side2 => exact (Kd.R_reads' HO119.out).2.1)
               rintro e w67 ⟨v126, rfl, ho0, hb⟩
               refine ⟨_, rfl, ?_⟩
               have n0_ := Aside0.mk (Kd.R_elder' (qrf12 HO109.out) (Kd.R_base ho0) hb)
               have n1_ := Aside0.mk (Kd.R_elder' (qrf12 HO113.out) (Kd.R_base ho0) hb)
               have n2_ := Aside0.mk (Kd.R_elder' (qrf12 HO119.out) (Kd.R_base ho0) hb)
               have n3_ := Aside0.mk (Kd.R_lower (Kd.R_new' (Kd.R_new' (Kd.R_new' ho0 (Kd.R_lt (qrf12 HO109.out))) (Kd.R_lt (qrf12 HO113.out))) (Kd.R_lt (qrf12 HO119.out))) (below_size (qw5f12 HB.out GE101.out GE102.out GE116.out GE121.out GE130.out)))
               have n4_ := Aside0.mk (blk_below (g := gb101) (o := .cells #[.int .i64 a0_0, .int .i64 a0_1, .int .i64 a0_2] 44 (0, 0)) (qbf12 BK101.out) hb)
               have n5_ := Aside0.mk (blk_below (g := gb102) (o := .cells #[.slice A1_0 l1_0.length c1_0, .int .i64 a1_1] 27 (0, 0)) (qbf12 BK102.out) hb)
               have n6_ := Aside0.mk (blk_below (g := gb116) (o := .cells #[.slice Ao51 t111.length co51, .int .i64 t114] 30 (0, 0)) (qbf12 BK116.out) hb)
               have n7_ := Aside0.mk (blk_below (g := gb121) (o := .cells #[.slice Ao58 t117.length co58, .int .i64 t120] 30 (0, 0)) (qbf12 BK121.out) hb)
               have n8_ := Aside0.mk (blk_below (g := gb130) (o := .cells #[.slice none 0 0, .int .i64 0] 30 (0, 0)) (qbf12 BK130.out) hb)
               have n9_ := Aside0.mk (below_step (qw5f12 HB.out GE101.out GE102.out GE116.out GE121.out GE130.out) hb)
               clear HO109
               clear HO113
               clear HO119
               clear BK101
               clear BK102
               clear BK116
               clear BK121
               clear BK130
               clear HB
               have HO109 := n0_
               have HO113 := n1_
               have HO119 := n2_
               have HO127 := n3_
               have BK101 := n4_
               have BK102 := n5_
               have BK116 := n6_
               have BK121 := n7_
               have BK130 := n8_
               have HB := n9_
               clear n0_ n1_ n2_ n3_ n4_ n5_ n6_ n7_ n8_ n9_
               (try clear hb)
               (try clear hb2)
               (try clear hk)
               (try clear hi)
               (try clear ho0)
               refine hK.out _ _ ⟨(blk_cell BK101.out 0).trans rfl, (blk_cell BK101.out 1).trans rfl, (blk_cell BK101.out 2).trans rfl, (blk_cell BK121.out 0).trans rfl, (blk_cell BK121.out 1).trans rfl⟩ (fun hHeld => ?_)
               clear hK K
               refine norm_ (a' := ?_) ?_ ?_
               rotate_left
               ·
                show Act.put _ (some 39) _ = _
                exact qsf12
               refine pure_ (i := 5) (N := some 34) (v := ?_) (a' := ?_) (rlf12 [6, 2, 1, 2]) rfl rfl (any_of HT_.out (by kernel_rfl)) (fun _ _ _ h => h) (Or.inl ⟨by rfl, ?_⟩) ?_ ?_
               rotate_left
               ·
                intro w'
                go_simp
                with_reducible rfl
               rotate_left
               ·
                exact qsf12
               refine pure_ (i := 6) (N := some 40) (v := ?_) (a' := ?_) (rlf12 [7, 1, 1, 2]) rfl rfl (any_of HT_.out (by kernel_rfl)) (fun _ _ _ h => h) (Or.inl ⟨by rfl, ?_⟩) ?_ ?_
               rotate_left
               ·
                intro w'
                go_simp
                with_reducible rfl
               rotate_left
               ·
                exact qsf12
               refine pure_ (i := 7) (N := some 41) (v := ?_) (a' := ?_) (rlf12 [9, 2]) rfl rfl (any_of HT_.out (by kernel_rfl)) (fun _ _ _ h => h) (Or.inl ⟨by rfl, ?_⟩) ?_ ?_
               rotate_left
               ·
                intro w'
                go_simp
                with_reducible rfl
               rotate_left
               ·
                exact qsf12
               exact norm_ (by simp only [putAll, Act.put, List.setIfInBounds_toArray, List.set_cons_zero, List.set_cons_succ]) (hCont (v126, gb130) _ ⟨hHeld, (by (with_reducible repeat (first | apply Kd.R_alloc | apply Kd.R_drewN | apply Kd.R_drew)); exact Kd.R_mono HO109.out (fun _ hk => ⟨hk.1.1, ⟨hk.1.2, hk.2⟩⟩)), (by (with_reducible repeat (first | apply Kd.R_alloc | apply Kd.R_drewN | apply Kd.R_drew)); exact Kd.R_mono HO113.out (fun _ hk => ⟨hk.1.1, ⟨hk.1.2, hk.2⟩⟩)), (by (with_reducible repeat (first | apply Kd.R_alloc | apply Kd.R_drewN | apply Kd.R_drew)); exact Kd.R_mono HO119.out (fun _ hk => ⟨hk.1.1, ⟨hk.1.2, hk.2⟩⟩)), (by (with_reducible repeat (first | apply Kd.R_alloc | apply Kd.R_drewN | apply Kd.R_drew)); exact Kd.R_mono HO127.out (fun _ hk => ⟨hk.1.1.2, ⟨hk.1.2, hk.2⟩⟩)), (qbf12 BK101.out), (qbf12 BK102.out), (qbf12 BK116.out), (qbf12 BK121.out), (qbf12 BK130.out), GW130.out, GE130.out, NB101_130.out, NB130_101.out, NB102_130.out, NB130_102.out, NB116_130.out, NB130_116.out, NB121_130.out, NB130_121.out, (qw5f12 HB.out GE101.out GE102.out GE116.out GE121.out GE130.out)⟩)
             rintro ⟨v126, gb130⟩ w68 ⟨hS_, h0_, h1_, h2_, h3_, h4_, h5_, h6_, h7_, h8_, h9_, h10_, h11_, h12_, h13_, h14_, h15_, h16_, h17_, h18_, h19_⟩
             have n0_ : Aside0 (Kd.R (Kd.int .i64) 3 w68 w.heap.size (fun k_ => some k_ ≠ (.slice Ao51 t111.length co51 : Value).ownBlock ∧ some k_ ≠ (.slice Ao58 t117.length co58 : Value).ownBlock ∧ some k_ ≠ (v126 : Value).ownBlock) v108 t107) := ⟨h0_⟩
             have n1_ : Aside0 (Kd.R (Kd.int .i64) 3 w68 w.heap.size (fun k_ => some k_ ≠ (v108 : Value).ownBlock ∧ some k_ ≠ (.slice Ao58 t117.length co58 : Value).ownBlock ∧ some k_ ≠ (v126 : Value).ownBlock) (.slice Ao51 t111.length co51) t111) := ⟨h1_⟩
             have n2_ : Aside0 (Kd.R (Kd.int .i64) 3 w68 w.heap.size (fun k_ => some k_ ≠ (v108 : Value).ownBlock ∧ some k_ ≠ (.slice Ao51 t111.length co51 : Value).ownBlock ∧ some k_ ≠ (v126 : Value).ownBlock) (.slice Ao58 t117.length co58) t117) := ⟨h2_⟩
             have n3_ : Aside0 (Kd.R (Kd.int .i64) 3 w68 w.heap.size (fun k_ => some k_ ≠ (v108 : Value).ownBlock ∧ some k_ ≠ (.slice Ao51 t111.length co51 : Value).ownBlock ∧ some k_ ≠ (.slice Ao58 t117.length co58 : Value).ownBlock) v126 t125) := ⟨h3_⟩
             have n4_ : Aside0 (w68.heap[gb101]? = some (.cells #[.int .i64 a0_0, .int .i64 a0_1, .int .i64 a0_2] 44 (0, 0))) := ⟨h4_⟩
             have n5_ : Aside0 (w68.heap[gb102]? = some (.cells #[.slice A1_0 l1_0.length c1_0, .int .i64 a1_1] 27 (0, 0))) := ⟨h5_⟩
             have n6_ : Aside0 (w68.heap[gb116]? = some (.cells #[.slice Ao51 t111.length co51, .int .i64 t114] 30 (0, 0))) := ⟨h6_⟩
             have n7_ : Aside0 (w68.heap[gb121]? = some (.cells #[.slice Ao58 t117.length co58, .int .i64 t120] 30 (0, 0))) := ⟨h7_⟩
             have n8_ : Aside0 (w68.heap[gb130]? = some (.cells #[.slice none 0 0, .int .i64 0] 30 (0, 0))) := ⟨h8_⟩
             have n9_ : Aside0 (w.heap.size ≤ gb130) := ⟨h9_⟩
             have n10_ : Aside0 (w.heap.size ≤ gb130) := ⟨h10_⟩
             have n11_ : Aside0 (gb101 ≠ gb130) := ⟨h11_⟩
             have n12_ : Aside0 (gb130 ≠ gb101) := ⟨h12_⟩
             have n13_ : Aside0 (gb102 ≠ gb130) := ⟨h13_⟩
             have n14_ : Aside0 (gb130 ≠ gb102) := ⟨h14_⟩
             have n15_ : Aside0 (gb116 ≠ gb130) := ⟨h15_⟩
             have n16_ : Aside0 (gb130 ≠ gb116) := ⟨h16_⟩
             have n17_ : Aside0 (gb121 ≠ gb130) := ⟨h17_⟩
             have n18_ : Aside0 (gb130 ≠ gb121) := ⟨h18_⟩
             have n19_ : Aside0 (Below w.heap.size w w68) := ⟨h19_⟩
             clear HO109
             clear HO113
             clear HO119
             clear BK101
             clear BK102
             clear BK116
             clear BK121
             clear HB
             clear h0_ h1_ h2_ h3_ h4_ h5_ h6_ h7_ h8_ h9_ h10_ h11_ h12_ h13_ h14_ h15_ h16_ h17_ h18_ h19_
             have HO109 := n0_
             have HO113 := n1_
             have HO119 := n2_
             have HO127 := n3_
             have BK101 := n4_
             have BK102 := n5_
             have BK116 := n6_
             have BK121 := n7_
             have BK130 := n8_
             have GW130 := n9_
             have GE130 := n10_
             have NB101_130 := n11_
             have NB130_101 := n12_
             have NB102_130 := n13_
             have NB130_102 := n14_
             have NB116_130 := n15_
             have NB130_116 := n16_
             have NB121_130 := n17_
             have NB130_121 := n18_
             have HB := n19_
             clear n0_ n1_ n2_ n3_ n4_ n5_ n6_ n7_ n8_ n9_ n10_ n11_ n12_ n13_ n14_ n15_ n16_ n17_ n18_ n19_
             have hHeld : w68.cell? ⟨gb101, 0, none⟩ = some (.int .i64 a0_0) ∧ w68.cell? ⟨gb101, 1, none⟩ = some (.int .i64 a0_1) ∧ w68.cell? ⟨gb101, 2, none⟩ = some (.int .i64 a0_2) ∧ w68.cell? ⟨gb121, 0, none⟩ = some (.slice Ao58 t117.length co58) ∧ w68.cell? ⟨gb121, 1, none⟩ = some (.int .i64 t120) := hS_
             obtain ⟨Ao69, co69, eo69⟩ := Kd.R_slice HO127.out
             (first | subst eo69 | (injection eo69 with f1_ f2_ f3_; have f4_ := f1_.symm; have f5_ := f3_.symm; clear f1_ f2_ f3_; subst f4_; subst f5_))
             refine norm_ (a' := ?_) ?_ ?_
             rotate_left
             ·
              simp only [putAll, Act.put, List.setIfInBounds_toArray, List.set_cons_zero, List.set_cons_succ]
              rfl
             refine one_ (i := 9) (N := none) (rlf12 [10, 1]) rfl rfl (one_of HT_.out (by kernel_rfl)) (by decide) (fun K hK => ?_)
             have hs70 : w68.cell? ⟨gb130, 0, none⟩ = some (.slice none 0 0) := (blk_cell BK130.out 0).trans rfl
             have hfs70 := blk_frozen BK130.out 0
             have hns70_0 := NB101_130.out
             have hns70_1 := NB102_130.out
             have hns70_2 := NB116_130.out
             have hns70_3 := NB121_130.out
             have hms70_0 := NB130_101.out
             have hms70_1 := NB130_102.out
             have hms70_2 := NB130_116.out
             have hms70_3 := NB130_121.out
             have hs71 : w68.cell? ⟨gb130, 1, none⟩ = some (.int .i64 0) := (blk_cell BK130.out 1).trans rfl
             have hfs71 := blk_frozen BK130.out 1
             have hns71_0 := NB101_130.out
             have hns71_1 := NB102_130.out
             have hns71_2 := NB116_130.out
             have hns71_3 := NB121_130.out
             have hms71_0 := NB130_101.out
             have hms71_1 := NB130_102.out
             have hms71_2 := NB130_116.out
             have hms71_3 := NB130_121.out
             refine skip_ (w1 := ?_) (by rfl) rfl ?_ ?_
             rotate_left
             ·
              go_simp
              rfl
             refine hK.out _ _ ⟨((cell_far (p := ⟨gb130, _, none⟩) NB101_130.out _).trans (((cell_far (p := ⟨gb130, _, none⟩) NB101_130.out _).trans (hHeld.1)))), ((cell_far (p := ⟨gb130, _, none⟩) NB101_130.out _).trans (((cell_far (p := ⟨gb130, _, none⟩) NB101_130.out _).trans (hHeld.2.1)))), ((cell_far (p := ⟨gb130, _, none⟩) NB101_130.out _).trans (((cell_far (p := ⟨gb130, _, none⟩) NB101_130.out _).trans (hHeld.2.2.1)))), ((cell_far (p := ⟨gb130, _, none⟩) NB121_130.out _).trans (((cell_far (p := ⟨gb130, _, none⟩) NB121_130.out _).trans (hHeld.2.2.2.1)))), ((cell_far (p := ⟨gb130, _, none⟩) NB121_130.out _).trans (((cell_far (p := ⟨gb130, _, none⟩) NB121_130.out _).trans (hHeld.2.2.2.2))))⟩ (fun hHeld => ?_)
             clear hK K
             refine pure_ (i := 10) (N := some 12) (v := ?_) (a' := ?_) (rlf12 [11]) rfl rfl (any_of HT_.out (by kernel_rfl)) (fun _ _ _ h => h) (Or.inl ⟨by rfl, ?_⟩) ?_ ?_
             rotate_left
             ·
              intro w'
              go_simp
              with_reducible rfl
             rotate_left
             ·
              exact qsf12
             refine done_ (done_of HT_.out (by kernel_rfl)) ?_
             have hnb72 := NB130_101.out
             have hnc72 := NB101_130.out
             have hnb73 := NB130_102.out
             have hnc73 := NB102_130.out
             have hnb74 := NB130_116.out
             have hnc74 := NB116_130.out
             have hnb75 := NB130_121.out
             have hnc75 := NB121_130.out
             have hcz76_0 : w68.cell? ⟨gb130, 0, none⟩ = some (.slice none 0 0) := (blk_cell BK130.out 0).trans rfl
             have hcz76_1 : w68.cell? ⟨gb130, 1, none⟩ = some (.int .i64 0) := (blk_cell BK130.out 1).trans rfl
             have hfz76_0 := blk_frozen BK130.out 0
             have hfz76_1 := blk_frozen BK130.out 1
             have hnb77 := NB116_101.out
             have hnc77 := NB101_116.out
             have hcz78_0 : w68.cell? ⟨gb116, 0, none⟩ = some (.slice Ao51 t111.length co51) := (blk_cell BK116.out 0).trans rfl
             have hcz78_1 : w68.cell? ⟨gb116, 1, none⟩ = some (.int .i64 t114) := (blk_cell BK116.out 1).trans rfl
             have hfz78_0 := blk_frozen BK116.out 0
             have hfz78_1 := blk_frozen BK116.out 1
             try go_wp2_with (first | ((with_reducible refine gate_callee (f := 23) rfl ?_); refine goesL_ (some 44) rfl rfl Try.func23 (by kernel_rfl) rfl #[.agg #[.slice Ao69 t125.length co69, .int .i64 t128], .agg #[.slice Ao51 t111.length co51, .int .i64 t114]] rfl qff12 ?_; (with_reducible refine (laws_eqLock.calls k _ _ t125 t128 _ _ t111 t114 true _ ?side1 ?side2 ?side3 ?side4 A16.out).mono ?_); (case side1 => refine (Kd.R_reads' (e := 3) (base := w.heap.size) (ok := fun k_ => (some k_ ≠ (v108 : Value).ownBlock ∧ (some k_ ≠ (.slice Ao51 t111.length co51 : Value).ownBlock ∧ some k_ ≠ (.slice Ao58 t117.length co58 : Value).ownBlock))) (n := t125.length) (c := co69) ?_).2.2; exact (by (with_reducible repeat (first | apply Kd.R_alloc | apply Kd.R_drewN | apply Kd.R_drew)); exact (Kd.R_mono (Kd.R_far (p := ⟨gb130, 1, none⟩) (Kd.R_far (p := ⟨gb130, 0, none⟩) (Kd.R_types HO127.out BK130.out (by decide)) (fun _ hk => hk.2) (.slice Ao69 t125.length co69)) (fun _ hk => hk.2) (.int .i64 t128)) (fun _ h_ => h_.1)))); (case side2 => exact (Kd.R_reads' HO127.out).2.1); (case side3 => refine (Kd.R_reads' (e := 3) (base := w.heap.size) (ok := fun k_ => (some k_ ≠ (v108 : Value).ownBlock ∧ (some k_ ≠ (.slice Ao58 t117.length co58 : Value).ownBlock ∧ some k_ ≠ (.slice Ao69 t125.length co69 : Value).ownBlock))) (n := t111.length) (c := co51) ?_).2.2; exact (by (with_reducible repeat (first | apply Kd.R_alloc | apply Kd.R_drewN | apply Kd.R_drew)); exact (Kd.R_mono (Kd.R_far (p := ⟨gb130, 1, none⟩) (Kd.R_far (p := ⟨gb130, 0, none⟩) (Kd.R_types HO113.out BK130.out (by decide)) (fun _ hk => hk.2) (.slice Ao69 t125.length co69)) (fun _ hk => hk.2) (.int .i64 t128)) (fun _ h_ => h_.1)))); (case side4 => exact (Kd.R_reads' HO113.out).2.1); rintro e w79 ⟨rfl, hb⟩; refine ⟨_, rfl, ?_⟩; have n0_ := Aside0.mk (Kd.R_below (by (with_reducible repeat (first | apply Kd.R_alloc | apply Kd.R_drewN | apply Kd.R_drew)); exact (Kd.R_mono (Kd.R_far (p := ⟨gb130, 1, none⟩) (Kd.R_far (p := ⟨gb130, 0, none⟩) (Kd.R_types HO109.out BK130.out (by decide)) (fun _ hk => hk.2) (.slice Ao69 t125.length co69)) (fun _ hk => hk.2) (.int .i64 t128)) (fun _ h_ => h_.1))) hb); have n1_ := Aside0.mk (Kd.R_below (by (with_reducible repeat (first | apply Kd.R_alloc | apply Kd.R_drewN | apply Kd.R_drew)); exact (Kd.R_mono (Kd.R_far (p := ⟨gb130, 1, none⟩) (Kd.R_far (p := ⟨gb130, 0, none⟩) (Kd.R_types HO113.out BK130.out (by decide)) (fun _ hk => hk.2) (.slice Ao69 t125.length co69)) (fun _ hk => hk.2) (.int .i64 t128)) (fun _ h_ => h_.1))) hb); have n2_ := Aside0.mk (Kd.R_below (by (with_reducible repeat (first | apply Kd.R_alloc | apply Kd.R_drewN | apply Kd.R_drew)); exact (Kd.R_mono (Kd.R_far (p := ⟨gb130, 1, none⟩) (Kd.R_far (p := ⟨gb130, 0, none⟩) (Kd.R_types HO119.out BK130.out (by decide)) (fun _ hk => hk.2) (.slice Ao69 t125.length co69)) (fun _ hk => hk.2) (.int .i64 t128)) (fun _ h_ => h_.1))) hb); have n3_ := Aside0.mk (Kd.R_below (by (with_reducible repeat (first | apply Kd.R_alloc | apply Kd.R_drewN | apply Kd.R_drew)); exact (Kd.R_mono (Kd.R_far (p := ⟨gb130, 1, none⟩) (Kd.R_far (p := ⟨gb130, 0, none⟩) (Kd.R_types HO127.out BK130.out (by decide)) (fun _ hk => hk.2) (.slice Ao69 t125.length co69)) (fun _ hk => hk.2) (.int .i64 t128)) (fun _ h_ => h_.1))) hb); have n4_ := Aside0.mk (blk_below (g := gb101) (o := .cells #[.int .i64 a0_0, .int .i64 a0_1, .int .i64 a0_2] 44 (0, 0)) (by (with_reducible repeat (first | refine blk_drewN ?_ _ | refine blk_drew ?_ | refine blk_alloc ?_ _)); refine blk_far ?_ NB101_130.out _; (with_reducible repeat (first | refine blk_drewN ?_ _ | refine blk_drew ?_ | refine blk_alloc ?_ _)); refine blk_far ?_ NB101_130.out _; (with_reducible repeat (first | refine blk_drewN ?_ _ | refine blk_drew ?_ | refine blk_alloc ?_ _)); exact BK101.out) hb); have n5_ := Aside0.mk (blk_below (g := gb102) (o := .cells #[.slice A1_0 l1_0.length c1_0, .int .i64 a1_1] 27 (0, 0)) (by (with_reducible repeat (first | refine blk_drewN ?_ _ | refine blk_drew ?_ | refine blk_alloc ?_ _)); refine blk_far ?_ NB102_130.out _; (with_reducible repeat (first | refine blk_drewN ?_ _ | refine blk_drew ?_ | refine blk_alloc ?_ _)); refine blk_far ?_ NB102_130.out _; (with_reducible repeat (first | refine blk_drewN ?_ _ | refine blk_drew ?_ | refine blk_alloc ?_ _)); exact BK102.out) hb); have n6_ := Aside0.mk (blk_below (g := gb116) (o := .cells #[.slice Ao51 t111.length co51, .int .i64 t114] 30 (0, 0)) (by (with_reducible repeat (first | refine blk_drewN ?_ _ | refine blk_drew ?_ | refine blk_alloc ?_ _)); refine blk_far ?_ NB116_130.out _; (with_reducible repeat (first | refine blk_drewN ?_ _ | refine blk_drew ?_ | refine blk_alloc ?_ _)); refine blk_far ?_ NB116_130.out _; (with_reducible repeat (first | refine blk_drewN ?_ _ | refine blk_drew ?_ | refine blk_alloc ?_ _)); exact BK116.out) hb); have n7_ := Aside0.mk (blk_below (g := gb121) (o := .cells #[.slice Ao58 t117.length co58, .int .i64 t120] 30 (0, 0)) (by (with_reducible repeat (first | refine blk_drewN ?_ _ | refine blk_drew ?_ | refine blk_alloc ?_ _)); refine blk_far ?_ NB121_130.out _; (with_reducible repeat (first | refine blk_drewN ?_ _ | refine blk_drew ?_ | refine blk_alloc ?_ _)); refine blk_far ?_ NB121_130.out _; (with_reducible repeat (first | refine blk_drewN ?_ _ | refine blk_drew ?_ | refine blk_alloc ?_ _)); exact BK121.out) hb); have n8_ := Aside0.mk (blk_below (g := gb130) (o := .cells #[.slice Ao69 t125.length co69, .int .i64 t128] 30 (0, 0)) (by (with_reducible repeat (first | refine blk_drewN ?_ _ | refine blk_drew ?_ | refine blk_alloc ?_ _)); refine blk_put (cs := #[.slice Ao69 t125.length co69, .int .i64 0]) ?_ 1 _ rfl; (with_reducible repeat (first | refine blk_drewN ?_ _ | refine blk_drew ?_ | refine blk_alloc ?_ _)); refine blk_put (cs := #[.slice none 0 0, .int .i64 0]) ?_ 0 _ rfl; (with_reducible repeat (first | refine blk_drewN ?_ _ | refine blk_drew ?_ | refine blk_alloc ?_ _)); exact BK130.out) hb); have n9_ := Aside0.mk (below_step (qw5f12 HB.out GE101.out GE102.out GE116.out GE121.out GE130.out) hb); clear HO109; clear HO113; clear HO119; clear HO127; clear BK101; clear BK102; clear BK116; clear BK121; clear BK130; clear HB; have HO109 := n0_; have HO113 := n1_; have HO119 := n2_; have HO127 := n3_; have BK101 := n4_; have BK102 := n5_; have BK116 := n6_; have BK121 := n7_; have BK130 := n8_; have HB := n9_; clear n0_ n1_ n2_ n3_ n4_ n5_ n6_ n7_ n8_ n9_; (try clear hb); (try clear hb2); (try clear hk); (try clear hi)))
             have n0_ := Aside0.mk (Kd.R_drew HO109.out)
             have n1_ := Aside0.mk (Kd.R_drew HO113.out)
             have n2_ := Aside0.mk (Kd.R_drew HO119.out)
             have n3_ := Aside0.mk (Kd.R_drew HO127.out)
             have n4_ := Aside0.mk (blk_drew BK101.out)
             have n5_ := Aside0.mk (blk_drew BK102.out)
             have n6_ := Aside0.mk (blk_drew BK116.out)
             have n7_ := Aside0.mk (blk_drew BK121.out)
             have n8_ := Aside0.mk (blk_drew BK130.out)
             have n9_ := Aside0.mk (below_drew1 HB.out)
             clear HO109
             clear HO113
             clear HO119
             clear HO127
             clear BK101
             clear BK102
             clear BK116
             clear BK121
             clear BK130
             clear HB
             have HO109 := n0_
             have HO113 := n1_
             have HO119 := n2_
             have HO127 := n3_
             have BK101 := n4_
             have BK102 := n5_
             have BK116 := n6_
             have BK121 := n7_
             have BK130 := n8_
             have HB := n9_
             clear n0_ n1_ n2_ n3_ n4_ n5_ n6_ n7_ n8_ n9_
             refine start_ (n := 5) (S := fun w' => w'.cell? ⟨gb121, 0, none⟩ = some (.slice Ao58 t117.length co58) ∧ w'.cell? ⟨gb121, 1, none⟩ = some (.int .i64 t120) ∧ w'.cell? ⟨gb102, 0, none⟩ = some (.slice A1_0 l1_0.length c1_0) ∧ w'.cell? ⟨gb102, 1, none⟩ = some (.int .i64 a1_1)) (ds := []) (rlf12 [0, 5]) (by kernel_rfl) rfl rfl ⟨(blk_cell BK121.out 0).trans rfl, (blk_cell BK121.out 1).trans rfl, (blk_cell BK102.out 0).trans rfl, (blk_cell BK102.out 1).trans rfl⟩ (fun hHeld => ?_)
             generalize w79.drew = w80 at HO109 HO113 HO119 HO127 BK101 BK102 BK116 BK121 BK130 HB hHeld ⊢
             refine take_ (i := 0) (N := some 51) (v := ?_) (a' := ?_) (rlf12 [1, 4]) rfl rfl (by kernel_rfl) (fun _ _ _ h => h) (Or.inl ⟨by rfl, ?_⟩) hHeld ?_ ?_
             rotate_left
             ·
              rintro w' ⟨s0, s1, s2, s3⟩
              go_simp
              with_reducible rfl
             rotate_left
             ·
              exact qsf12
             refine take_ (i := 1) (N := some 52) (v := ?_) (a' := ?_) (rlf12 [2, 3]) rfl rfl (by kernel_rfl) (fun _ _ _ h => h) (Or.inl ⟨by rfl, ?_⟩) hHeld ?_ ?_
             rotate_left
             ·
              rintro w' ⟨s0, s1, s2, s3⟩
              go_simp
              with_reducible rfl
             rotate_left
             ·
              exact qsf12
             refine one_ (i := 2) (N := some 53) (rlf12 [3, 2]) rfl rfl (by kernel_rfl) (by decide) (fun K hK => ?_)
             refine goes_ Try.func21 (by kernel_rfl) rfl #[.agg #[.slice A1_0 l1_0.length c1_0, .int .i64 a1_1]] (by rfl) rfl rfl qff12 ?_
             with_reducible refine (laws_toLock.calls k _ _ l1_0 a1_1 t132 t135 _ ?side1 ?side2 A19.out).mono ?_
             (case side1 => repeat (first | exact (Kd.C_below HR1_0.out HB.out) | (with_reducible refine Kd.C_alloc ?_ _) | (with_reducible refine Kd.C_drewN ?_ _) | (with_reducible refine Kd.C_drew ?_)))
             (case side2 => exact HC1_0.out)
             rintro e w81 ⟨v133, rfl, ho0, hb⟩
             refine ⟨_, rfl, ?_⟩
             have n0_ := Aside0.mk (Kd.R_elder' (qrf12 HO109.out) (Kd.R_base ho0) hb)
             have n1_ := Aside0.mk (Kd.R_elder' (qrf12 HO113.out) (Kd.R_base ho0) hb)
             have n2_ := Aside0.mk (Kd.R_elder' (qrf12 HO119.out) (Kd.R_base ho0) hb)
             have n3_ := Aside0.mk (Kd.R_elder' (qrf12 HO127.out) (Kd.R_base ho0) hb)
             have n4_ := Aside0.mk (Kd.R_lower (Kd.R_new' (Kd.R_new' (Kd.R_new' (Kd.R_new' ho0 (Kd.R_lt (qrf12 HO109.out))) (Kd.R_lt (qrf12 HO113.out))) (Kd.R_lt (qrf12 HO119.out))) (Kd.R_lt (qrf12 HO127.out))) (below_size (qw5f12 HB.out GE101.out GE102.out GE116.out GE121.out GE130.out)))
             have n5_ := Aside0.mk (blk_below (g := gb101) (o := .cells #[.int .i64 a0_0, .int .i64 a0_1, .int .i64 a0_2] 44 (0, 0)) (qbf12 BK101.out) hb)
             have n6_ := Aside0.mk (blk_below (g := gb102) (o := .cells #[.slice A1_0 l1_0.length c1_0, .int .i64 a1_1] 27 (0, 0)) (qbf12 BK102.out) hb)
             have n7_ := Aside0.mk (blk_below (g := gb116) (o := .cells #[.slice Ao51 t111.length co51, .int .i64 t114] 30 (0, 0)) (qbf12 BK116.out) hb)
             have n8_ := Aside0.mk (blk_below (g := gb121) (o := .cells #[.slice Ao58 t117.length co58, .int .i64 t120] 30 (0, 0)) (qbf12 BK121.out) hb)
             have n9_ := Aside0.mk (blk_below (g := gb130) (o := .cells #[.slice Ao69 t125.length co69, .int .i64 t128] 30 (0, 0)) (qbf12 BK130.out) hb)
             have n10_ := Aside0.mk (below_step (qw5f12 HB.out GE101.out GE102.out GE116.out GE121.out GE130.out) hb)
             clear HO109
             clear HO113
             clear HO119
             clear HO127
             clear BK101
             clear BK102
             clear BK116
             clear BK121
             clear BK130
             clear HB
             have HO109 := n0_
             have HO113 := n1_
             have HO119 := n2_
             have HO127 := n3_
             have HO134 := n4_
             have BK101 := n5_
             have BK102 := n6_
             have BK116 := n7_
             have BK121 := n8_
             have BK130 := n9_
             have HB := n10_
             clear n0_ n1_ n2_ n3_ n4_ n5_ n6_ n7_ n8_ n9_ n10_
             (try clear hb)
             (try clear hb2)
             (try clear hk)
             (try clear hi)
             (try clear ho0)
             obtain ⟨Ao82, co82, eo82⟩ := Kd.R_slice HO134.out
             (first | subst eo82 | (injection eo82 with f1_ f2_ f3_; have f4_ := f1_.symm; have f5_ := f3_.symm; clear f1_ f2_ f3_; subst f4_; subst f5_))
             refine hK.out _ _ ⟨(blk_cell BK121.out 0).trans rfl, (blk_cell BK121.out 1).trans rfl, (blk_cell BK102.out 0).trans rfl, (blk_cell BK102.out 1).trans rfl⟩ (fun hHeld => ?_)
             clear hK K
             refine norm_ (a' := ?_) ?_ ?_
             rotate_left
             ·
              show Act.put _ (some 53) _ = _
              exact qsf12
             refine one_ (i := 3) (N := some 54) (rlf12 [4, 1]) rfl rfl (by kernel_rfl) (by decide) (fun K hK => ?_)
             refine goes_ Try.func23 (by kernel_rfl) rfl #[.agg #[.slice Ao58 t117.length co58, .int .i64 t120], .agg #[.slice Ao82 t132.length co82, .int .i64 t135]] (by rfl) rfl rfl qff12 ?_
             with_reducible refine (laws_eqLock.calls k _ _ t117 t120 _ _ t132 t135 true _ ?side1 ?side2 ?side3 ?side4 A20.out).mono ?_
             (case side1 => repeat (first | exact (Kd.R_reads' HO119.out).2.2 | (with_reducible refine Kd.C_alloc ?_ _) | (with_reducible refine Kd.C_drewN ?_ _) | (with_reducible refine Kd.C_drew ?_)))
             (case side2 => exact (Kd.R_reads' HO119.out).2.1)
             (case side3 => repeat (first | exact (Kd.R_reads' HO134.out).2.2 | (with_reducible refine Kd.C_alloc ?_ _) | (with_reducible refine Kd.C_drewN ?_ _) | (with_reducible refine Kd.C_drew ?_)))
             (case side4 => exact (Kd.R_reads' HO134.out).2.1)
             rintro e w83 ⟨rfl, hb⟩
             refine ⟨_, rfl, ?_⟩
             have n0_ := Aside0.mk (Kd.R_below (qrf12 HO109.out) hb)
             have n1_ := Aside0.mk (Kd.R_below (qrf12 HO113.out) hb)
             have n2_ := Aside0.mk (Kd.R_below (qrf12 HO119.out) hb)
             have n3_ := Aside0.mk (Kd.R_below (qrf12 HO127.out) hb)
             have n4_ := Aside0.mk (Kd.R_below (qrf12 HO134.out) hb)
             have n5_ := Aside0.mk (blk_below (g := gb101) (o := .cells #[.int .i64 a0_0, .int .i64 a0_1, .int .i64 a0_2] 44 (0, 0)) (qbf12 BK101.out) hb)
             have n6_ := Aside0.mk (blk_below (g := gb102) (o := .cells #[.slice A1_0 l1_0.length c1_0, .int .i64 a1_1] 27 (0, 0)) (qbf12 BK102.out) hb)
             have n7_ := Aside0.mk (blk_below (g := gb116) (o := .cells #[.slice Ao51 t111.length co51, .int .i64 t114] 30 (0, 0)) (qbf12 BK116.out) hb)
             have n8_ := Aside0.mk (blk_below (g := gb121) (o := .cells #[.slice Ao58 t117.length co58, .int .i64 t120] 30 (0, 0)) (qbf12 BK121.out) hb)
             have n9_ := Aside0.mk (blk_below (g := gb130) (o := .cells #[.slice Ao69 t125.length co69, .int .i64 t128] 30 (0, 0)) (qbf12 BK130.out) hb)
             have n10_ := Aside0.mk (below_step (qw5f12 HB.out GE101.out GE102.out GE116.out GE121.out GE130.out) hb)
             clear HO109
             clear HO113
             clear HO119
             clear HO127
             clear HO134
             clear BK101
             clear BK102
             clear BK116
             clear BK121
             clear BK130
             clear HB
             have HO109 := n0_
             have HO113 := n1_
             have HO119 := n2_
             have HO127 := n3_
             have HO134 := n4_
             have BK101 := n5_
             have BK102 := n6_
             have BK116 := n7_
             have BK121 := n8_
             have BK130 := n9_
             have HB := n10_
             clear n0_ n1_ n2_ n3_ n4_ n5_ n6_ n7_ n8_ n9_ n10_
             (try clear hb)
             (try clear hb2)
             (try clear hk)
             (try clear hi)
             refine hK.out _ _ ⟨(blk_cell BK121.out 0).trans rfl, (blk_cell BK121.out 1).trans rfl, (blk_cell BK102.out 0).trans rfl, (blk_cell BK102.out 1).trans rfl⟩ (fun hHeld => ?_)
             clear hK K
             refine norm_ (a' := ?_) ?_ ?_
             rotate_left
             ·
              show Act.put _ (some 54) _ = _
              exact qsf12
             refine pure_ (i := 4) (N := some 55) (v := ?_) (a' := ?_) (rlf12 [5]) rfl rfl (by kernel_rfl) (fun _ _ _ h => h) (Or.inl ⟨by rfl, ?_⟩) ?_ ?_
             rotate_left
             ·
              intro w'
              go_simp
              with_reducible rfl
             rotate_left
             ·
              exact qsf12
             refine done_ (by kernel_rfl) ?_
             have hcz84_0 : w83.cell? ⟨gb121, 0, none⟩ = some (.slice Ao58 t117.length co58) := (blk_cell BK121.out 0).trans rfl
             have hcz84_1 : w83.cell? ⟨gb121, 1, none⟩ = some (.int .i64 t120) := (blk_cell BK121.out 1).trans rfl
             have hfz84_0 := blk_frozen BK121.out 0
             have hfz84_1 := blk_frozen BK121.out 1
             try go_wp2_with (first | ((with_reducible refine gate_callee (f := 42) rfl ?_); refine goesL_ (some 58) rfl rfl Try.func42 (by kernel_rfl) rfl #[.agg #[.slice Ao58 t117.length co58, .int .i64 t120], .int .i64 1] rfl qff12 ?_; (with_reducible refine (laws_markLock.calls k (fun k_ => some k_ = (.slice Ao58 t117.length co58 : Value).ownBlock) (.slice Ao58 t117.length co58) t117 t120 1 t137 t138 w _ ?side1 ?side2 A22.out).mono ?_); (case side1 => repeat (first | (with_reducible first | exact HB.out | apply below_alloc | apply pw_below_drewN | apply below_drew1 | refine below_set ?_ GE101.out | refine below_set ?_ GE102.out | refine below_set ?_ GE116.out | refine below_set ?_ GE121.out | refine below_set ?_ GE130.out) | exact HB.out)); (case side2 => exact Kd.R_tight rfl HO119.out); rintro e w85 ⟨rfl, hy0, hb, hkp⟩; refine ⟨_, rfl, ?_⟩; have n0_ := Aside0.mk (blk_kept (qbf12 BK101.out) hkp (fun hs_ => (fun e_ => (Kd.R_ne HO119.out BK101.out (by decide)) e_) hs_)); have n1_ := Aside0.mk (blk_kept (qbf12 BK102.out) hkp (fun hs_ => (fun e_ => (Kd.R_ne HO119.out BK102.out (by decide)) e_) hs_)); have n2_ := Aside0.mk (Kd.R_mono (ok' := fun k_ => some k_ ≠ (.slice Ao51 t111.length co51 : Value).ownBlock ∧ some k_ ≠ (.slice Ao58 t117.length co58 : Value).ownBlock ∧ some k_ ≠ (.slice Ao69 t125.length co69 : Value).ownBlock ∧ some k_ ≠ (.slice Ao82 t132.length co82 : Value).ownBlock) (Kd.R_keptB (HO109.out) hkp (fun k_ hk_ hs_ => (hk_.1.2.1) hs_)) (fun k_ hk_ => ⟨hk_.1.1.1, hk_.1.1.2.1, hk_.1.1.2.2, hk_.1.2⟩)); have n3_ := Aside0.mk (Kd.R_mono (ok' := fun k_ => some k_ ≠ (v108 : Value).ownBlock ∧ some k_ ≠ (.slice Ao58 t117.length co58 : Value).ownBlock ∧ some k_ ≠ (.slice Ao69 t125.length co69 : Value).ownBlock ∧ some k_ ≠ (.slice Ao82 t132.length co82 : Value).ownBlock) (Kd.R_keptB (HO113.out) hkp (fun k_ hk_ hs_ => (hk_.1.2.1) hs_)) (fun k_ hk_ => ⟨hk_.1.1.1, hk_.1.1.2.1, hk_.1.1.2.2, hk_.1.2⟩)); have n4_ := Aside0.mk (blk_kept (qbf12 BK116.out) hkp (fun hs_ => (fun e_ => (Kd.R_ne HO119.out BK116.out (by decide)) e_) hs_)); have n5_ := Aside0.mk (Kd.R_reok rfl hy0 (fun k_ e_ => HO119.out.1 k_ e_)); have n6_ := Aside0.mk (blk_kept (qbf12 BK121.out) hkp (fun hs_ => (fun e_ => (Kd.R_ne HO119.out BK121.out (by decide)) e_) hs_)); have n7_ := Aside0.mk (Kd.R_mono (ok' := fun k_ => some k_ ≠ (v108 : Value).ownBlock ∧ some k_ ≠ (.slice Ao51 t111.length co51 : Value).ownBlock ∧ some k_ ≠ (.slice Ao58 t117.length co58 : Value).ownBlock ∧ some k_ ≠ (.slice Ao82 t132.length co82 : Value).ownBlock) (Kd.R_keptB (HO127.out) hkp (fun k_ hk_ hs_ => (hk_.1.2.2) hs_)) (fun k_ hk_ => ⟨hk_.1.1.1, hk_.1.1.2.1, hk_.1.1.2.2, hk_.1.2⟩)); have n8_ := Aside0.mk (blk_kept (qbf12 BK130.out) hkp (fun hs_ => (fun e_ => (Kd.R_ne HO119.out BK130.out (by decide)) e_) hs_)); have n9_ := Aside0.mk (Kd.R_mono (ok' := fun k_ => some k_ ≠ (v108 : Value).ownBlock ∧ some k_ ≠ (.slice Ao51 t111.length co51 : Value).ownBlock ∧ some k_ ≠ (.slice Ao58 t117.length co58 : Value).ownBlock ∧ some k_ ≠ (.slice Ao69 t125.length co69 : Value).ownBlock) (Kd.R_keptB (HO134.out) hkp (fun k_ hk_ hs_ => (hk_.1.2) hs_)) (fun k_ hk_ => ⟨hk_.1.1.1.1.2, hk_.1.1.1.2, hk_.1.1.2, hk_.1.2⟩)); have n10_ := Aside0.mk (hb); clear BK101; clear BK102; clear HO109; clear HO113; clear BK116; clear HO119; clear BK121; clear HO127; clear BK130; clear HO134; clear HB; have BK101 := n0_; have BK102 := n1_; have HO109 := n2_; have HO113 := n3_; have BK116 := n4_; have HO119 := n5_; have BK121 := n6_; have HO127 := n7_; have BK130 := n8_; have HO134 := n9_; have HB := n10_; clear n0_ n1_ n2_ n3_ n4_ n5_ n6_ n7_ n8_ n9_ n10_; (try clear hb); (try clear hkp); (try clear hy0); have hcz86_0 : w85.cell? ⟨gb130, 0, none⟩ = some (.slice Ao69 t125.length co69) := (blk_cell BK130.out 0).trans rfl; have hcz86_1 : w85.cell? ⟨gb130, 1, none⟩ = some (.int .i64 t128) := (blk_cell BK130.out 1).trans rfl; have hfz86_0 := blk_frozen BK130.out 0; have hfz86_1 := blk_frozen BK130.out 1; have hcz87_0 : w85.cell? ⟨gb116, 0, none⟩ = some (.slice Ao51 t111.length co51) := (blk_cell BK116.out 0).trans rfl; have hcz87_1 : w85.cell? ⟨gb116, 1, none⟩ = some (.int .i64 t114) := (blk_cell BK116.out 1).trans rfl; have hfz87_0 := blk_frozen BK116.out 0; have hfz87_1 := blk_frozen BK116.out 1) | (go_at_call 23; (with_reducible refine (laws_eqLock.calls k _ _ t125 t128 _ _ t111 t114 true _ ?side1 ?side2 ?side3 ?side4 A24.out).mono ?_); (case side1 => repeat (first | exact (Kd.R_reads' HO127.out).2.2 | (with_reducible refine Kd.C_alloc ?_ _) | (with_reducible refine Kd.C_drewN ?_ _) | (with_reducible refine Kd.C_drew ?_))); (case side2 => exact (Kd.R_reads' HO127.out).2.1); (case side3 => repeat (first | exact (Kd.R_reads' HO113.out).2.2 | (with_reducible refine Kd.C_alloc ?_ _) | (with_reducible refine Kd.C_drewN ?_ _) | (with_reducible refine Kd.C_drew ?_))); (case side4 => exact (Kd.R_reads' HO113.out).2.1); rintro e w88 ⟨rfl, hb⟩; have n0_ := Aside0.mk (Kd.R_below (qrf12 HO109.out) hb); have n1_ := Aside0.mk (Kd.R_below (qrf12 HO113.out) hb); have n2_ := Aside0.mk (Kd.R_below (qrf12 HO119.out) hb); have n3_ := Aside0.mk (Kd.R_below (qrf12 HO127.out) hb); have n4_ := Aside0.mk (Kd.R_below (qrf12 HO134.out) hb); have n5_ := Aside0.mk (blk_below (g := gb101) (o := .cells #[.int .i64 a0_0, .int .i64 a0_1, .int .i64 a0_2] 44 (0, 0)) (qbf12 BK101.out) hb); have n6_ := Aside0.mk (blk_below (g := gb102) (o := .cells #[.slice A1_0 l1_0.length c1_0, .int .i64 a1_1] 27 (0, 0)) (qbf12 BK102.out) hb); have n7_ := Aside0.mk (blk_below (g := gb116) (o := .cells #[.slice Ao51 t111.length co51, .int .i64 t114] 30 (0, 0)) (qbf12 BK116.out) hb); have n8_ := Aside0.mk (blk_below (g := gb121) (o := .cells #[.slice Ao58 t117.length co58, .int .i64 t120] 30 (0, 0)) (qbf12 BK121.out) hb); have n9_ := Aside0.mk (blk_below (g := gb130) (o := .cells #[.slice Ao69 t125.length co69, .int .i64 t128] 30 (0, 0)) (qbf12 BK130.out) hb); have n10_ := Aside0.mk (below_step (qw5f12 HB.out GE101.out GE102.out GE116.out GE121.out GE130.out) hb); clear HO109; clear HO113; clear HO119; clear HO127; clear HO134; clear BK101; clear BK102; clear BK116; clear BK121; clear BK130; clear HB; have HO109 := n0_; have HO113 := n1_; have HO119 := n2_; have HO127 := n3_; have HO134 := n4_; have BK101 := n5_; have BK102 := n6_; have BK116 := n7_; have BK121 := n8_; have BK130 := n9_; have HB := n10_; clear n0_ n1_ n2_ n3_ n4_ n5_ n6_ n7_ n8_ n9_ n10_; (try clear hb); (try clear hb2); (try clear hk); (try clear hi); have hcz89_0 : w88.cell? ⟨gb130, 0, none⟩ = some (.slice Ao69 t125.length co69) := (blk_cell BK130.out 0).trans rfl; have hcz89_1 : w88.cell? ⟨gb130, 1, none⟩ = some (.int .i64 t128) := (blk_cell BK130.out 1).trans rfl; have hfz89_0 := blk_frozen BK130.out 0; have hfz89_1 := blk_frozen BK130.out 1) | ((with_reducible refine gate_callee (f := 42) rfl ?_); refine goesL_ (some 74) rfl rfl Try.func42 (by kernel_rfl) rfl #[.agg #[.slice Ao69 t125.length co69, .int .i64 t128], .int .i64 1] rfl qff12 ?_; (with_reducible refine (laws_markLock.calls k (fun k_ => some k_ = (.slice Ao69 t125.length co69 : Value).ownBlock) (.slice Ao69 t125.length co69) t125 t128 1 t140 t141 w _ ?side1 ?side2 A26.out).mono ?_); (case side1 => repeat (first | (with_reducible first | exact HB.out | apply below_alloc | apply pw_below_drewN | apply below_drew1 | refine below_set ?_ GE101.out | refine below_set ?_ GE102.out | refine below_set ?_ GE116.out | refine below_set ?_ GE121.out | refine below_set ?_ GE130.out) | exact HB.out)); (case side2 => exact Kd.R_tight rfl HO127.out); rintro e w90 ⟨rfl, hy0, hb, hkp⟩; refine ⟨_, rfl, ?_⟩; have n0_ := Aside0.mk (blk_kept (qbf12 BK101.out) hkp (fun hs_ => (fun e_ => (Kd.R_ne HO127.out BK101.out (by decide)) e_) hs_)); have n1_ := Aside0.mk (blk_kept (qbf12 BK102.out) hkp (fun hs_ => (fun e_ => (Kd.R_ne HO127.out BK102.out (by decide)) e_) hs_)); have n2_ := Aside0.mk (Kd.R_mono (ok' := fun k_ => some k_ ≠ (.slice Ao51 t111.length co51 : Value).ownBlock ∧ some k_ ≠ (.slice Ao58 t117.length co58 : Value).ownBlock ∧ some k_ ≠ (.slice Ao69 t125.length co69 : Value).ownBlock ∧ some k_ ≠ (.slice Ao82 t132.length co82 : Value).ownBlock) (Kd.R_keptB (HO109.out) hkp (fun k_ hk_ hs_ => (hk_.2.2.1) hs_)) (fun k_ hk_ => ⟨hk_.1.1, hk_.1.2.1, hk_.1.2.2.1, hk_.1.2.2.2⟩)); have n3_ := Aside0.mk (Kd.R_mono (ok' := fun k_ => some k_ ≠ (v108 : Value).ownBlock ∧ some k_ ≠ (.slice Ao58 t117.length co58 : Value).ownBlock ∧ some k_ ≠ (.slice Ao69 t125.length co69 : Value).ownBlock ∧ some k_ ≠ (.slice Ao82 t132.length co82 : Value).ownBlock) (Kd.R_keptB (HO113.out) hkp (fun k_ hk_ hs_ => (hk_.2.2.1) hs_)) (fun k_ hk_ => ⟨hk_.1.1, hk_.1.2.1, hk_.1.2.2.1, hk_.1.2.2.2⟩)); have n4_ := Aside0.mk (blk_kept (qbf12 BK116.out) hkp (fun hs_ => (fun e_ => (Kd.R_ne HO127.out BK116.out (by decide)) e_) hs_)); have n5_ := Aside0.mk (Kd.R_mono (ok' := fun k_ => some k_ ≠ (v108 : Value).ownBlock ∧ some k_ ≠ (.slice Ao51 t111.length co51 : Value).ownBlock ∧ some k_ ≠ (.slice Ao69 t125.length co69 : Value).ownBlock ∧ some k_ ≠ (.slice Ao82 t132.length co82 : Value).ownBlock) (Kd.R_keptB (HO119.out) hkp (fun k_ hk_ hs_ => (hk_.1.2.2) hs_)) (fun k_ hk_ => ⟨hk_.1.1.1, hk_.1.1.2.1, hk_.1.1.2.2, hk_.1.2⟩)); have n6_ := Aside0.mk (blk_kept (qbf12 BK121.out) hkp (fun hs_ => (fun e_ => (Kd.R_ne HO127.out BK121.out (by decide)) e_) hs_)); have n7_ := Aside0.mk (Kd.R_reok rfl hy0 (fun k_ e_ => HO127.out.1 k_ e_)); have n8_ := Aside0.mk (blk_kept (qbf12 BK130.out) hkp (fun hs_ => (fun e_ => (Kd.R_ne HO127.out BK130.out (by decide)) e_) hs_)); have n9_ := Aside0.mk (Kd.R_mono (ok' := fun k_ => some k_ ≠ (v108 : Value).ownBlock ∧ some k_ ≠ (.slice Ao51 t111.length co51 : Value).ownBlock ∧ some k_ ≠ (.slice Ao58 t117.length co58 : Value).ownBlock ∧ some k_ ≠ (.slice Ao69 t125.length co69 : Value).ownBlock) (Kd.R_keptB (HO134.out) hkp (fun k_ hk_ hs_ => (hk_.2.2.2) hs_)) (fun k_ hk_ => ⟨hk_.1.1, hk_.1.2.1, hk_.1.2.2.1, hk_.1.2.2.2⟩)); have n10_ := Aside0.mk (hb); clear BK101; clear BK102; clear HO109; clear HO113; clear BK116; clear HO119; clear BK121; clear HO127; clear BK130; clear HO134; clear HB; have BK101 := n0_; have BK102 := n1_; have HO109 := n2_; have HO113 := n3_; have BK116 := n4_; have HO119 := n5_; have BK121 := n6_; have HO127 := n7_; have BK130 := n8_; have HO134 := n9_; have HB := n10_; clear n0_ n1_ n2_ n3_ n4_ n5_ n6_ n7_ n8_ n9_ n10_; (try clear hb); (try clear hkp); (try clear hy0); have hcz91_0 : w90.cell? ⟨gb130, 0, none⟩ = some (.slice Ao69 t125.length co69) := (blk_cell BK130.out 0).trans rfl; have hcz91_1 : w90.cell? ⟨gb130, 1, none⟩ = some (.int .i64 t128) := (blk_cell BK130.out 1).trans rfl; have hfz91_0 := blk_frozen BK130.out 0; have hfz91_1 := blk_frozen BK130.out 1) | ((with_reducible refine gate_callee (f := 43) rfl ?_); refine goesL_ (some 77) rfl rfl Try.func43 (by kernel_rfl) rfl #[.agg #[.slice Ao69 t141.length co69, .int .i64 t128], .int .i64 1] rfl (by (try simp only [List.map_toArray, List.map_cons, List.map_nil]); first | done | (rw [show t141.length = t125.length from (Kd.R_reads' HO127.out).1.symm] <;> rfl) | rfl | (simp only [List.length_drop, List.length_take]; rfl)) ?_; (with_reducible refine (laws_heldLock.calls k _ _ t141 t128 1 t142 _ ?side1 ?side2 A27.out).mono ?_); (case side1 => repeat (first | exact (Kd.R_reads' HO127.out).2.2 | (with_reducible refine Kd.C_alloc ?_ _) | (with_reducible refine Kd.C_drewN ?_ _) | (with_reducible refine Kd.C_drew ?_))); (case side2 => rw [show t141.length = t125.length from (Kd.R_reads' HO127.out).1.symm]; exact (Kd.R_reads' HO127.out).2.1); rintro e w92 ⟨rfl, hb⟩; refine ⟨_, rfl, ?_⟩; have n0_ := Aside0.mk (Kd.R_below (qrf12 HO109.out) hb); have n1_ := Aside0.mk (Kd.R_below (qrf12 HO113.out) hb); have n2_ := Aside0.mk (Kd.R_below (qrf12 HO119.out) hb); have n3_ := Aside0.mk (Kd.R_below (qrf12 HO127.out) hb); have n4_ := Aside0.mk (Kd.R_below (qrf12 HO134.out) hb); have n5_ := Aside0.mk (blk_below (g := gb101) (o := .cells #[.int .i64 a0_0, .int .i64 a0_1, .int .i64 a0_2] 44 (0, 0)) (qbf12 BK101.out) hb); have n6_ := Aside0.mk (blk_below (g := gb102) (o := .cells #[.slice A1_0 l1_0.length c1_0, .int .i64 a1_1] 27 (0, 0)) (qbf12 BK102.out) hb); have n7_ := Aside0.mk (blk_below (g := gb116) (o := .cells #[.slice Ao51 t111.length co51, .int .i64 t114] 30 (0, 0)) (qbf12 BK116.out) hb); have n8_ := Aside0.mk (blk_below (g := gb121) (o := .cells #[.slice Ao58 t117.length co58, .int .i64 t120] 30 (0, 0)) (qbf12 BK121.out) hb); have n9_ := Aside0.mk (blk_below (g := gb130) (o := .cells #[.slice Ao69 t125.length co69, .int .i64 t128] 30 (0, 0)) (qbf12 BK130.out) hb); have n10_ := Aside0.mk (below_step (qw5f12 HB.out GE101.out GE102.out GE116.out GE121.out GE130.out) hb); clear HO109; clear HO113; clear HO119; clear HO127; clear HO134; clear BK101; clear BK102; clear BK116; clear BK121; clear BK130; clear HB; have HO109 := n0_; have HO113 := n1_; have HO119 := n2_; have HO127 := n3_; have HO134 := n4_; have BK101 := n5_; have BK102 := n6_; have BK116 := n7_; have BK121 := n8_; have BK130 := n9_; have HB := n10_; clear n0_ n1_ n2_ n3_ n4_ n5_ n6_ n7_ n8_ n9_ n10_; (try clear hb); (try clear hb2); (try clear hk); (try clear hi)))
             have n0_ := Aside0.mk (Kd.R_drew HO109.out)
             have n1_ := Aside0.mk (Kd.R_drew HO113.out)
             have n2_ := Aside0.mk (Kd.R_drew HO119.out)
             have n3_ := Aside0.mk (Kd.R_drew HO127.out)
             have n4_ := Aside0.mk (Kd.R_drew HO134.out)
             have n5_ := Aside0.mk (blk_drew BK101.out)
             have n6_ := Aside0.mk (blk_drew BK102.out)
             have n7_ := Aside0.mk (blk_drew BK116.out)
             have n8_ := Aside0.mk (blk_drew BK121.out)
             have n9_ := Aside0.mk (blk_drew BK130.out)
             have n10_ := Aside0.mk (below_drew1 HB.out)
             clear HO109
             clear HO113
             clear HO119
             clear HO127
             clear HO134
             clear BK101
             clear BK102
             clear BK116
             clear BK121
             clear BK130
             clear HB
             have HO109 := n0_
             have HO113 := n1_
             have HO119 := n2_
             have HO127 := n3_
             have HO134 := n4_
             have BK101 := n5_
             have BK102 := n6_
             have BK116 := n7_
             have BK121 := n8_
             have BK130 := n9_
             have HB := n10_
             clear n0_ n1_ n2_ n3_ n4_ n5_ n6_ n7_ n8_ n9_ n10_
             refine start_ (n := 12) (S := fun w' => w'.cell? ⟨gb101, 0, none⟩ = some (.int .i64 a0_0) ∧ w'.cell? ⟨gb101, 1, none⟩ = some (.int .i64 a0_1) ∧ w'.cell? ⟨gb101, 2, none⟩ = some (.int .i64 a0_2) ∧ w'.cell? ⟨gb102, 0, none⟩ = some (.slice A1_0 l1_0.length c1_0) ∧ w'.cell? ⟨gb102, 1, none⟩ = some (.int .i64 a1_1)) (ds := []) (rlf12 [0, 12]) (by kernel_rfl) rfl rfl ⟨(blk_cell BK101.out 0).trans rfl, (blk_cell BK101.out 1).trans rfl, (blk_cell BK101.out 2).trans rfl, (blk_cell BK102.out 0).trans rfl, (blk_cell BK102.out 1).trans rfl⟩ (fun hHeld => ?_); refine with_tabW laws_FnExactLockFail.tab24 laws_FnExactLockFail.bits24 (fun HT_ HW_ => ?_)
             generalize w92.drew = w93 at HO109 HO113 HO119 HO127 HO134 BK101 BK102 BK116 BK121 BK130 HB hHeld ⊢
             refine pure_ (i := 4) (N := some 88) (v := ?_) (a' := ?_) (rlf12 [0, 4, 1, 7]) rfl rfl (any_of HT_.out (by kernel_rfl)) (fun _ _ _ h => h) (Or.inl ⟨by rfl, ?_⟩) ?_ ?_
             rotate_left
             ·
              intro w'
              go_simp
              with_reducible rfl
             rotate_left
             ·
              exact qsf12
             refine take_ (i := 0) (N := some 84) (v := ?_) (a' := ?_) (rlf12 [1, 3, 1, 7]) rfl rfl (take_ofW HT_.out HW_.out (by kernel_rfl)) (fun _ _ _ h => h) (Or.inl ⟨by rfl, ?_⟩) hHeld ?_ ?_
             rotate_left
             ·
              rintro w' ⟨s0, s1, s2, s3, s4⟩
              go_simp
              with_reducible rfl
             rotate_left
             ·
              exact qsf12
             refine take_ (i := 2) (N := some 86) (v := ?_) (a' := ?_) (rlf12 [1, 1, 1, 1, 1, 7]) rfl rfl (take_ofW HT_.out HW_.out (by kernel_rfl)) (fun _ _ _ h => h) (Or.inl ⟨by rfl, ?_⟩) hHeld ?_ ?_
             rotate_left
             ·
              rintro w' ⟨s0, s1, s2, s3, s4⟩
              go_simp
              with_reducible rfl
             rotate_left
             ·
              exact qsf12
             refine join_ (σ := Value × Value × Nat) 2 (rlf12 [10, 2]) (fun s_ => [(85, .agg #[.int .i64 t143, .int .i64 t144, .int .i64 t145]), (87, .agg #[s_.1, .int .i64 t149]), (89, .tuple #[.agg #[s_.2.1, .int .i64 t153], .bool t154]), (16, .pointer (some ⟨s_.2.2, 0, none⟩)), (83, .tuple #[.agg #[s_.2.1, .int .i64 t153], .bool t154]), (90, .agg #[s_.2.1, .int .i64 t153]), (91, .bool t154)]) (fun s_ w' => (w'.cell? ⟨gb101, 0, none⟩ = some (.int .i64 a0_0) ∧ w'.cell? ⟨gb101, 1, none⟩ = some (.int .i64 a0_1) ∧ w'.cell? ⟨gb101, 2, none⟩ = some (.int .i64 a0_2) ∧ w'.cell? ⟨gb102, 0, none⟩ = some (.slice A1_0 l1_0.length c1_0) ∧ w'.cell? ⟨gb102, 1, none⟩ = some (.int .i64 a1_1)) ∧ (Kd.R (Kd.int .i64) 3 w' w.heap.size (fun k_ => some k_ ≠ (.slice Ao51 t111.length co51 : Value).ownBlock ∧ some k_ ≠ (.slice Ao58 t117.length co58 : Value).ownBlock ∧ some k_ ≠ (.slice Ao69 t125.length co69 : Value).ownBlock ∧ some k_ ≠ (.slice Ao82 t132.length co82 : Value).ownBlock ∧ some k_ ≠ (s_.1 : Value).ownBlock ∧ some k_ ≠ (s_.2.1 : Value).ownBlock) v108 t107) ∧ (Kd.R (Kd.int .i64) 3 w' w.heap.size (fun k_ => some k_ ≠ (v108 : Value).ownBlock ∧ some k_ ≠ (.slice Ao58 t117.length co58 : Value).ownBlock ∧ some k_ ≠ (.slice Ao69 t125.length co69 : Value).ownBlock ∧ some k_ ≠ (.slice Ao82 t132.length co82 : Value).ownBlock ∧ some k_ ≠ (s_.1 : Value).ownBlock ∧ some k_ ≠ (s_.2.1 : Value).ownBlock) (.slice Ao51 t111.length co51) t111) ∧ (Kd.R (Kd.int .i64) 3 w' w.heap.size (fun k_ => some k_ ≠ (v108 : Value).ownBlock ∧ some k_ ≠ (.slice Ao51 t111.length co51 : Value).ownBlock ∧ some k_ ≠ (.slice Ao69 t125.length co69 : Value).ownBlock ∧ some k_ ≠ (.slice Ao82 t132.length co82 : Value).ownBlock ∧ some k_ ≠ (s_.1 : Value).ownBlock ∧ some k_ ≠ (s_.2.1 : Value).ownBlock) (.slice Ao58 t117.length co58) t138) ∧ (Kd.R (Kd.int .i64) 3 w' w.heap.size (fun k_ => some k_ ≠ (v108 : Value).ownBlock ∧ some k_ ≠ (.slice Ao51 t111.length co51 : Value).ownBlock ∧ some k_ ≠ (.slice Ao58 t117.length co58 : Value).ownBlock ∧ some k_ ≠ (.slice Ao82 t132.length co82 : Value).ownBlock ∧ some k_ ≠ (s_.1 : Value).ownBlock ∧ some k_ ≠ (s_.2.1 : Value).ownBlock) (.slice Ao69 t125.length co69) t141) ∧ (Kd.R (Kd.int .i64) 3 w' w.heap.size (fun k_ => some k_ ≠ (v108 : Value).ownBlock ∧ some k_ ≠ (.slice Ao51 t111.length co51 : Value).ownBlock ∧ some k_ ≠ (.slice Ao58 t117.length co58 : Value).ownBlock ∧ some k_ ≠ (.slice Ao69 t125.length co69 : Value).ownBlock ∧ some k_ ≠ (s_.1 : Value).ownBlock ∧ some k_ ≠ (s_.2.1 : Value).ownBlock) (.slice Ao82 t132.length co82) t132) ∧ (Kd.R (Kd.int .i64) 3 w' w.heap.size (fun k_ => some k_ ≠ (v108 : Value).ownBlock ∧ some k_ ≠ (.slice Ao51 t111.length co51 : Value).ownBlock ∧ some k_ ≠ (.slice Ao58 t117.length co58 : Value).ownBlock ∧ some k_ ≠ (.slice Ao69 t125.length co69 : Value).ownBlock ∧ some k_ ≠ (.slice Ao82 t132.length co82 : Value).ownBlock ∧ some k_ ≠ (s_.2.1 : Value).ownBlock) s_.1 t146) ∧ (Kd.R (Kd.int .i64) 3 w' w.heap.size (fun k_ => some k_ ≠ (v108 : Value).ownBlock ∧ some k_ ≠ (.slice Ao51 t111.length co51 : Value).ownBlock ∧ some k_ ≠ (.slice Ao58 t117.length co58 : Value).ownBlock ∧ some k_ ≠ (.slice Ao69 t125.length co69 : Value).ownBlock ∧ some k_ ≠ (.slice Ao82 t132.length co82 : Value).ownBlock ∧ some k_ ≠ (s_.1 : Value).ownBlock) s_.2.1 t150) ∧ (w'.heap[gb101]? = some (.cells #[.int .i64 a0_0, .int .i64 a0_1, .int .i64 a0_2] 44 (0, 0))) ∧ (w'.heap[gb102]? = some (.cells #[.slice A1_0 l1_0.length c1_0, .int .i64 a1_1] 27 (0, 0))) ∧ (w'.heap[gb116]? = some (.cells #[.slice Ao51 t111.length co51, .int .i64 t114] 30 (0, 0))) ∧ (w'.heap[gb121]? = some (.cells #[.slice Ao58 t117.length co58, .int .i64 t120] 30 (0, 0))) ∧ (w'.heap[gb130]? = some (.cells #[.slice Ao69 t125.length co69, .int .i64 t128] 30 (0, 0))) ∧ (w'.heap[s_.2.2]? = some (.cells #[.slice none 0 0, .int .i64 0] 30 (0, 0))) ∧ (w.heap.size ≤ s_.2.2) ∧ (w.heap.size ≤ s_.2.2) ∧ (gb101 ≠ s_.2.2) ∧ (s_.2.2 ≠ gb101) ∧ (gb102 ≠ s_.2.2) ∧ (s_.2.2 ≠ gb102) ∧ (gb116 ≠ s_.2.2) ∧ (s_.2.2 ≠ gb116) ∧ (gb121 ≠ s_.2.2) ∧ (s_.2.2 ≠ gb121) ∧ (gb130 ≠ s_.2.2) ∧ (s_.2.2 ≠ gb130) ∧ (Below w.heap.size w w')) ?_ ?_
             rotate_left
             ·
              intro hCont
              refine two_ (i := 1) (j := 9) (Ni := some 85) (Nj := some 16) (rlf12 [3, 1, 1, 7]) (rlf12 [1, 1, 1, 1, 1, 4, 1, 2]) rfl rfl rfl rfl (two_of HT_.out (by kernel_rfl)) (by decide) (by decide) (fun K hK => ?_) (fun K hK => ?_)
              ·
               skip
               refine goes_ Try.func31 (by kernel_rfl) rfl #[.agg #[.int .i64 a0_0, .int .i64 a0_1, .int .i64 a0_2]] (by rfl) rfl rfl qff12 ?_
               with_reducible refine (laws_toLockRule.calls a0_0 a0_1 a0_2 t143 t144 t145 _ A30.out).mono ?_
               rintro e w94 ⟨rfl, hb⟩
               refine ⟨_, rfl, ?_⟩
               have n0_ := Aside0.mk (Kd.R_below (qrf12 HO109.out) hb)
               have n1_ := Aside0.mk (Kd.R_below (qrf12 HO113.out) hb)
               have n2_ := Aside0.mk (Kd.R_below (qrf12 HO119.out) hb)
               have n3_ := Aside0.mk (Kd.R_below (qrf12 HO127.out) hb)
               have n4_ := Aside0.mk (Kd.R_below (qrf12 HO134.out) hb)
               have n5_ := Aside0.mk (blk_below (g := gb101) (o := .cells #[.int .i64 a0_0, .int .i64 a0_1, .int .i64 a0_2] 44 (0, 0)) (qbf12 BK101.out) hb)
               have n6_ := Aside0.mk (blk_below (g := gb102) (o := .cells #[.slice A1_0 l1_0.length c1_0, .int .i64 a1_1] 27 (0, 0)) (qbf12 BK102.out) hb)
               have n7_ := Aside0.mk (blk_below (g := gb116) (o := .cells #[.slice Ao51 t111.length co51, .int .i64 t114] 30 (0, 0)) (qbf12 BK116.out) hb)
               have n8_ := Aside0.mk (blk_below (g := gb121) (o := .cells #[.slice Ao58 t117.length co58, .int .i64 t120] 30 (0, 0)) (qbf12 BK121.out) hb)
               have n9_ := Aside0.mk (blk_below (g := gb130) (o := .cells #[.slice Ao69 t125.length co69, .int .i64 t128] 30 (0, 0)) (qbf12 BK130.out) hb)
               have n10_ := Aside0.mk (below_step (qw5f12 HB.out GE101.out GE102.out GE116.out GE121.out GE130.out) hb)
               clear HO109
               clear HO113
               clear HO119
               clear HO127
               clear HO134
               clear BK101
               clear BK102
               clear BK116
               clear BK121
               clear BK130
               clear HB
               have HO109 := n0_
               have HO113 := n1_
               have HO119 := n2_
               have HO127 := n3_
               have HO134 := n4_
               have BK101 := n5_
               have BK102 := n6_
               have BK116 := n7_
               have BK121 := n8_
               have BK130 := n9_
               have HB := n10_
               clear n0_ n1_ n2_ n3_ n4_ n5_ n6_ n7_ n8_ n9_ n10_
               (try clear hb)
               (try clear hb2)
               (try clear hk)
               (try clear hi)
               refine hK.out _ _ ⟨(blk_cell BK101.out 0).trans rfl, (blk_cell BK101.out 1).trans rfl, (blk_cell BK101.out 2).trans rfl, (blk_cell BK102.out 0).trans rfl, (blk_cell BK102.out 1).trans rfl⟩ (fun hHeld => ?_)
               clear hK K
               refine norm_ (a' := ?_) ?_ ?_
               rotate_left
               ·
                show Act.put _ (some 85) _ = _
                exact qsf12
               refine two_ (i := 3) (j := 9) (Ni := some 87) (Nj := some 16) (rlf12 [5, 7]) (rlf12 [3, 1, 1, 4, 1, 2]) rfl rfl rfl rfl (two_of HT_.out (by kernel_rfl)) (by decide) (by decide) (fun K hK => ?_) (fun K hK => ?_)
               ·
                skip
                refine goes_ Try.func21 (by kernel_rfl) rfl #[.agg #[.slice A1_0 l1_0.length c1_0, .int .i64 a1_1]] (by rfl) rfl rfl qff12 ?_
                with_reducible refine (laws_toLock.calls k _ _ l1_0 a1_1 t146 t149 _ ?side1 ?side2 A31.out).mono ?_
                (case side1 => repeat (first | exact (Kd.C_below HR1_0.out HB.out) | (with_reducible refine Kd.C_alloc ?_ _) | (with_reducible refine Kd.C_drewN ?_ _) | (with_reducible refine Kd.C_drew ?_)))
                (case side2 => exact HC1_0.out)
                rintro e w95 ⟨v147, rfl, ho0, hb⟩
                refine ⟨_, rfl, ?_⟩
                have n0_ := Aside0.mk (Kd.R_elder' (qrf12 HO109.out) (Kd.R_base ho0) hb)
                have n1_ := Aside0.mk (Kd.R_elder' (qrf12 HO113.out) (Kd.R_base ho0) hb)
                have n2_ := Aside0.mk (Kd.R_elder' (qrf12 HO119.out) (Kd.R_base ho0) hb)
                have n3_ := Aside0.mk (Kd.R_elder' (qrf12 HO127.out) (Kd.R_base ho0) hb)
                have n4_ := Aside0.mk (Kd.R_elder' (qrf12 HO134.out) (Kd.R_base ho0) hb)
                have n5_ := Aside0.mk (Kd.R_lower (Kd.R_new' (Kd.R_new' (Kd.R_new' (Kd.R_new' (Kd.R_new' ho0 (Kd.R_lt (qrf12 HO109.out))) (Kd.R_lt (qrf12 HO113.out))) (Kd.R_lt (qrf12 HO119.out))) (Kd.R_lt (qrf12 HO127.out))) (Kd.R_lt (qrf12 HO134.out))) (below_size (qw5f12 HB.out GE101.out GE102.out GE116.out GE121.out GE130.out)))
                have n6_ := Aside0.mk (blk_below (g := gb101) (o := .cells #[.int .i64 a0_0, .int .i64 a0_1, .int .i64 a0_2] 44 (0, 0)) (qbf12 BK101.out) hb)
                have n7_ := Aside0.mk (blk_below (g := gb102) (o := .cells #[.slice A1_0 l1_0.length c1_0, .int .i64 a1_1] 27 (0, 0)) (qbf12 BK102.out) hb)
                have n8_ := Aside0.mk (blk_below (g := gb116) (o := .cells #[.slice Ao51 t111.length co51, .int .i64 t114] 30 (0, 0)) (qbf12 BK116.out) hb)
                have n9_ := Aside0.mk (blk_below (g := gb121) (o := .cells #[.slice Ao58 t117.length co58, .int .i64 t120] 30 (0, 0)) (qbf12 BK121.out) hb)
                have n10_ := Aside0.mk (blk_below (g := gb130) (o := .cells #[.slice Ao69 t125.length co69, .int .i64 t128] 30 (0, 0)) (qbf12 BK130.out) hb)
                have n11_ := Aside0.mk (below_step (qw5f12 HB.out GE101.out GE102.out GE116.out GE121.out GE130.out) hb)
                clear HO109
                clear HO113
                clear HO119
                clear HO127
                clear HO134
                clear BK101
                clear BK102
                clear BK116
                clear BK121
                clear BK130
                clear HB
                have HO109 := n0_
                have HO113 := n1_
                have HO119 := n2_
                have HO127 := n3_
                have HO134 := n4_
                have HO148 := n5_
                have BK101 := n6_
                have BK102 := n7_
                have BK116 := n8_
                have BK121 := n9_
                have BK130 := n10_
                have HB := n11_
                clear n0_ n1_ n2_ n3_ n4_ n5_ n6_ n7_ n8_ n9_ n10_ n11_
                (try clear hb)
                (try clear hb2)
                (try clear hk)
                (try clear hi)
                (try clear ho0)
                obtain ⟨Ao96, co96, eo96⟩ := Kd.R_slice HO148.out
                (first | subst eo96 | (injection eo96 with f1_ f2_ f3_; have f4_ := f1_.symm; have f5_ := f3_.symm; clear f1_ f2_ f3_; subst f4_; subst f5_))
                refine hK.out _ _ ⟨(blk_cell BK101.out 0).trans rfl, (blk_cell BK101.out 1).trans rfl, (blk_cell BK101.out 2).trans rfl, (blk_cell BK102.out 0).trans rfl, (blk_cell BK102.out 1).trans rfl⟩ (fun hHeld => ?_)
                clear hK K
                refine norm_ (a' := ?_) ?_ ?_
                rotate_left
                ·
                 show Act.put _ (some 87) _ = _
                 exact qsf12
                refine two_ (i := 5) (j := 9) (Ni := some 89) (Nj := some 16) (rlf12 [6, 6]) (rlf12 [5, 4, 1, 2]) rfl rfl rfl rfl (two_of HT_.out (by kernel_rfl)) (by decide) (by decide) (fun K hK => ?_) (fun K hK => ?_)
                ·
                 skip
                 refine goes_ Try.func29 (by kernel_rfl) rfl #[.agg #[.int .i64 t143, .int .i64 t144, .int .i64 t145], .agg #[.slice Ao96 t146.length co96, .int .i64 t149], .int .i64 a2] (by rfl) rfl rfl qff12 ?_
                 with_reducible refine (impl_LockFail.calls k t143 t144 t145 _ _ t146 t149 a2 t150 t153 t154 _ ?side1 ?side2 A32.out).mono ?_
                 (case side1 => repeat (first | exact (Kd.R_reads' HO148.out).2.2 | (with_reducible refine Kd.C_alloc ?_ _) | (with_reducible refine Kd.C_drewN ?_ _) | (with_reducible refine Kd.C_drew ?_)))
                 (case side2 => exact (Kd.R_reads' HO148.out).2.1)
                 rintro e w97 ⟨v151, rfl, ho0, hb⟩
                 refine ⟨_, rfl, ?_⟩
                 have n0_ := Aside0.mk (Kd.R_elder' (qrf12 HO109.out) (Kd.R_base ho0) hb)
                 have n1_ := Aside0.mk (Kd.R_elder' (qrf12 HO113.out) (Kd.R_base ho0) hb)
                 have n2_ := Aside0.mk (Kd.R_elder' (qrf12 HO119.out) (Kd.R_base ho0) hb)
                 have n3_ := Aside0.mk (Kd.R_elder' (qrf12 HO127.out) (Kd.R_base ho0) hb)
                 have n4_ := Aside0.mk (Kd.R_elder' (qrf12 HO134.out) (Kd.R_base ho0) hb)
                 have n5_ := Aside0.mk (Kd.R_elder' (qrf12 HO148.out) (Kd.R_base ho0) hb)
                 have n6_ := Aside0.mk (Kd.R_lower (Kd.R_new' (Kd.R_new' (Kd.R_new' (Kd.R_new' (Kd.R_new' (Kd.R_new' ho0 (Kd.R_lt (qrf12 HO109.out))) (Kd.R_lt (qrf12 HO113.out))) (Kd.R_lt (qrf12 HO119.out))) (Kd.R_lt (qrf12 HO127.out))) (Kd.R_lt (qrf12 HO134.out))) (Kd.R_lt (qrf12 HO148.out))) (below_size (qw5f12 HB.out GE101.out GE102.out GE116.out GE121.out GE130.out)))
                 have n7_ := Aside0.mk (blk_below (g := gb101) (o := .cells #[.int .i64 a0_0, .int .i64 a0_1, .int .i64 a0_2] 44 (0, 0)) (qbf12 BK101.out) hb)
                 have n8_ := Aside0.mk (blk_below (g := gb102) (o := .cells #[.slice A1_0 l1_0.length c1_0, .int .i64 a1_1] 27 (0, 0)) (qbf12 BK102.out) hb)
                 have n9_ := Aside0.mk (blk_below (g := gb116) (o := .cells #[.slice Ao51 t111.length co51, .int .i64 t114] 30 (0, 0)) (qbf12 BK116.out) hb)
                 have n10_ := Aside0.mk (blk_below (g := gb121) (o := .cells #[.slice Ao58 t117.length co58, .int .i64 t120] 30 (0, 0)) (qbf12 BK121.out) hb)
                 have n11_ := Aside0.mk (blk_below (g := gb130) (o := .cells #[.slice Ao69 t125.length co69, .int .i64 t128] 30 (0, 0)) (qbf12 BK130.out) hb)
                 have n12_ := Aside0.mk (below_step (qw5f12 HB.out GE101.out GE102.out GE116.out GE121.out GE130.out) hb)
                 clear HO109
                 clear HO113
                 clear HO119
                 clear HO127
                 clear HO134
                 clear HO148
                 clear BK101
                 clear BK102
                 clear BK116
                 clear BK121
                 clear BK130
                 clear HB
                 have HO109 := n0_
                 have HO113 := n1_
                 have HO119 := n2_
                 have HO127 := n3_
                 have HO134 := n4_
                 have HO148 := n5_
                 have HO152 := n6_
                 have BK101 := n7_
                 have BK102 := n8_
                 have BK116 := n9_
                 have BK121 := n10_
                 have BK130 := n11_
                 have HB := n12_
                 clear n0_ n1_ n2_ n3_ n4_ n5_ n6_ n7_ n8_ n9_ n10_ n11_ n12_
                 (try clear hb)
                 (try clear hb2)
                 (try clear hk)
                 (try clear hi)
                 (try clear ho0)
                 refine hK.out _ _ ⟨(blk_cell BK101.out 0).trans rfl, (blk_cell BK101.out 1).trans rfl, (blk_cell BK101.out 2).trans rfl, (blk_cell BK102.out 0).trans rfl, (blk_cell BK102.out 1).trans rfl⟩ (fun hHeld => ?_)
                 clear hK K
                 refine norm_ (a' := ?_) ?_ ?_
                 rotate_left
                 ·
                  show Act.put _ (some 89) _ = _
                  exact qsf12
                 refine pure_ (i := 6) (N := some 83) (v := ?_) (a' := ?_) (rlf12 [7, 5]) rfl rfl (any_of HT_.out (by kernel_rfl)) (fun _ _ _ h => h) (Or.inl ⟨by rfl, ?_⟩) ?_ ?_
                 rotate_left
                 ·
                  intro w'
                  go_simp
                  with_reducible rfl
                 rotate_left
                 ·
                  exact qsf12
                 refine pure_ (i := 7) (N := some 90) (v := ?_) (a' := ?_) (rlf12 [8, 4]) rfl rfl (any_of HT_.out (by kernel_rfl)) (fun _ _ _ h => h) (Or.inl ⟨by rfl, ?_⟩) ?_ ?_
                 rotate_left
                 ·
                  intro w'
                  go_simp
                  with_reducible rfl
                 rotate_left
                 ·
                  exact qsf12
                 refine pure_ (i := 8) (N := some 91) (v := ?_) (a' := ?_) (rlf12 [9, 3]) rfl rfl (any_of HT_.out (by kernel_rfl)) (fun _ _ _ h => h) (Or.inl ⟨by rfl, ?_⟩) ?_ ?_
                 rotate_left
                 ·
                  intro w'
                  go_simp
                  with_reducible rfl
                 rotate_left
                 ·
                  exact qsf12
                 refine one_ (i := 9) (N := some 16) (rlf12 [10, 2]) rfl rfl (one_of HT_.out (by kernel_rfl)) (by decide) (fun K hK => ?_)
                 refine box_step ?hg (N := 16) ?hd (cs := #[.slice none 0 0, .int .i64 0]) (t := 30) ?hr ?_; (case hd => rfl); (case hg => rfl); (case hr => first | (go_simp; done) | (go_simp; rfl))
                 intro gb155 hg w98 hbox hb
                 have n0_ := Aside0.mk (Kd.R_below (qrf12 HO109.out) hb)
                 have n1_ := Aside0.mk (Kd.R_below (qrf12 HO113.out) hb)
                 have n2_ := Aside0.mk (Kd.R_below (qrf12 HO119.out) hb)
                 have n3_ := Aside0.mk (Kd.R_below (qrf12 HO127.out) hb)
                 have n4_ := Aside0.mk (Kd.R_below (qrf12 HO134.out) hb)
                 have n5_ := Aside0.mk (Kd.R_below (qrf12 HO148.out) hb)
                 have n6_ := Aside0.mk (Kd.R_below (qrf12 HO152.out) hb)
                 have n7_ := Aside0.mk (blk_below (g := gb101) (o := .cells #[.int .i64 a0_0, .int .i64 a0_1, .int .i64 a0_2] 44 (0, 0)) (qbf12 BK101.out) hb)
                 have n8_ := Aside0.mk (blk_below (g := gb102) (o := .cells #[.slice A1_0 l1_0.length c1_0, .int .i64 a1_1] 27 (0, 0)) (qbf12 BK102.out) hb)
                 have n9_ := Aside0.mk (blk_below (g := gb116) (o := .cells #[.slice Ao51 t111.length co51, .int .i64 t114] 30 (0, 0)) (qbf12 BK116.out) hb)
                 have n10_ := Aside0.mk (blk_below (g := gb121) (o := .cells #[.slice Ao58 t117.length co58, .int .i64 t120] 30 (0, 0)) (qbf12 BK121.out) hb)
                 have n11_ := Aside0.mk (blk_below (g := gb130) (o := .cells #[.slice Ao69 t125.length co69, .int .i64 t128] 30 (0, 0)) (qbf12 BK130.out) hb)
                 have n12_ := Aside0.mk (below_step (qw5f12 HB.out GE101.out GE102.out GE116.out GE121.out GE130.out) hb)
                 have n13_ := Aside0.mk (hbox)
                 have n14_ := Aside0.mk ((by rw [hg]; exact (below_size (qw5f12 HB.out GE101.out GE102.out GE116.out GE121.out GE130.out)) : w.heap.size ≤ gb155))
                 have n15_ := Aside0.mk ((by rw [hg]; exact (below_size (qw5f12 HB.out GE101.out GE102.out GE116.out GE121.out GE130.out)) : w.heap.size ≤ gb155))
                 have n16_ := Aside0.mk ((by rw [hg]; exact Nat.ne_of_lt (blk_lt (g := gb101) (o := .cells #[.int .i64 a0_0, .int .i64 a0_1, .int .i64 a0_2] 44 (0, 0)) (qbf12 BK101.out)) : gb101 ≠ gb155))
                 have n17_ := Aside0.mk ((by rw [hg]; exact Nat.ne_of_gt (blk_lt (g := gb101) (o := .cells #[.int .i64 a0_0, .int .i64 a0_1, .int .i64 a0_2] 44 (0, 0)) (qbf12 BK101.out)) : gb155 ≠ gb101))
                 have n18_ := Aside0.mk ((by rw [hg]; exact Nat.ne_of_lt (blk_lt (g := gb102) (o := .cells #[.slice A1_0 l1_0.length c1_0, .int .i64 a1_1] 27 (0, 0)) (qbf12 BK102.out)) : gb102 ≠ gb155))
                 have n19_ := Aside0.mk ((by rw [hg]; exact Nat.ne_of_gt (blk_lt (g := gb102) (o := .cells #[.slice A1_0 l1_0.length c1_0, .int .i64 a1_1] 27 (0, 0)) (qbf12 BK102.out)) : gb155 ≠ gb102))
                 have n20_ := Aside0.mk ((by rw [hg]; exact Nat.ne_of_lt (blk_lt (g := gb116) (o := .cells #[.slice Ao51 t111.length co51, .int .i64 t114] 30 (0, 0)) (qbf12 BK116.out)) : gb116 ≠ gb155))
                 have n21_ := Aside0.mk ((by rw [hg]; exact Nat.ne_of_gt (blk_lt (g := gb116) (o := .cells #[.slice Ao51 t111.length co51, .int .i64 t114] 30 (0, 0)) (qbf12 BK116.out)) : gb155 ≠ gb116))
                 have n22_ := Aside0.mk ((by rw [hg]; exact Nat.ne_of_lt (blk_lt (g := gb121) (o := .cells #[.slice Ao58 t117.length co58, .int .i64 t120] 30 (0, 0)) (qbf12 BK121.out)) : gb121 ≠ gb155))
                 have n23_ := Aside0.mk ((by rw [hg]; exact Nat.ne_of_gt (blk_lt (g := gb121) (o := .cells #[.slice Ao58 t117.length co58, .int .i64 t120] 30 (0, 0)) (qbf12 BK121.out)) : gb155 ≠ gb121))
                 have n24_ := Aside0.mk ((by rw [hg]; exact Nat.ne_of_lt (blk_lt (g := gb130) (o := .cells #[.slice Ao69 t125.length co69, .int .i64 t128] 30 (0, 0)) (qbf12 BK130.out)) : gb130 ≠ gb155))
                 have n25_ := Aside0.mk ((by rw [hg]; exact Nat.ne_of_gt (blk_lt (g := gb130) (o := .cells #[.slice Ao69 t125.length co69, .int .i64 t128] 30 (0, 0)) (qbf12 BK130.out)) : gb155 ≠ gb130))
                 clear HO109
                 clear HO113
                 clear HO119
                 clear HO127
                 clear HO134
                 clear HO148
                 clear HO152
                 clear BK101
                 clear BK102
                 clear BK116
                 clear BK121
                 clear BK130
                 clear HB
                 have HO109 := n0_
                 have HO113 := n1_
                 have HO119 := n2_
                 have HO127 := n3_
                 have HO134 := n4_
                 have HO148 := n5_
                 have HO152 := n6_
                 have BK101 := n7_
                 have BK102 := n8_
                 have BK116 := n9_
                 have BK121 := n10_
                 have BK130 := n11_
                 have HB := n12_
                 have BK155 := n13_
                 have GW155 := n14_
                 have GE155 := n15_
                 have NB101_155 := n16_
                 have NB155_101 := n17_
                 have NB102_155 := n18_
                 have NB155_102 := n19_
                 have NB116_155 := n20_
                 have NB155_116 := n21_
                 have NB121_155 := n22_
                 have NB155_121 := n23_
                 have NB130_155 := n24_
                 have NB155_130 := n25_
                 clear n0_ n1_ n2_ n3_ n4_ n5_ n6_ n7_ n8_ n9_ n10_ n11_ n12_ n13_ n14_ n15_ n16_ n17_ n18_ n19_ n20_ n21_ n22_ n23_ n24_ n25_
                 clear hb hbox hg
                 refine hK.out _ _ ⟨(blk_cell BK101.out 0).trans rfl, (blk_cell BK101.out 1).trans rfl, (blk_cell BK101.out 2).trans rfl, (blk_cell BK102.out 0).trans rfl, (blk_cell BK102.out 1).trans rfl⟩ (fun hHeld => ?_)
                 clear hK K
                 refine norm_ (a' := ?_) ?_ ?_
                 rotate_left
                 ·
                  show Act.put _ (some 16) _ = _
                  exact qsf12
                 exact norm_ (by simp only [putAll, Act.put, List.setIfInBounds_toArray, List.set_cons_zero, List.set_cons_succ]) (hCont (.slice Ao96 t146.length co96, v151, gb155) _ ⟨hHeld, (by (with_reducible repeat (first | apply Kd.R_alloc | apply Kd.R_drewN | apply Kd.R_drew)); exact Kd.R_mono HO109.out (fun _ hk => ⟨hk.1.1.1, ⟨hk.1.1.2.1, ⟨hk.1.1.2.2.1, ⟨hk.1.1.2.2.2, ⟨hk.1.2, hk.2⟩⟩⟩⟩⟩)), (by (with_reducible repeat (first | apply Kd.R_alloc | apply Kd.R_drewN | apply Kd.R_drew)); exact Kd.R_mono HO113.out (fun _ hk => ⟨hk.1.1.1, ⟨hk.1.1.2.1, ⟨hk.1.1.2.2.1, ⟨hk.1.1.2.2.2, ⟨hk.1.2, hk.2⟩⟩⟩⟩⟩)), (by (with_reducible repeat (first | apply Kd.R_alloc | apply Kd.R_drewN | apply Kd.R_drew)); exact Kd.R_mono HO119.out (fun _ hk => ⟨hk.1.1.1, ⟨hk.1.1.2.1, ⟨hk.1.1.2.2.1, ⟨hk.1.1.2.2.2, ⟨hk.1.2, hk.2⟩⟩⟩⟩⟩)), (by (with_reducible repeat (first | apply Kd.R_alloc | apply Kd.R_drewN | apply Kd.R_drew)); exact Kd.R_mono HO127.out (fun _ hk => ⟨hk.1.1.1, ⟨hk.1.1.2.1, ⟨hk.1.1.2.2.1, ⟨hk.1.1.2.2.2, ⟨hk.1.2, hk.2⟩⟩⟩⟩⟩)), (by (with_reducible repeat (first | apply Kd.R_alloc | apply Kd.R_drewN | apply Kd.R_drew)); exact Kd.R_mono HO134.out (fun _ hk => ⟨hk.1.1.1, ⟨hk.1.1.2.1, ⟨hk.1.1.2.2.1, ⟨hk.1.1.2.2.2, ⟨hk.1.2, hk.2⟩⟩⟩⟩⟩)), (by (with_reducible repeat (first | apply Kd.R_alloc | apply Kd.R_drewN | apply Kd.R_drew)); exact Kd.R_mono HO148.out (fun _ hk => ⟨hk.1.1.1.1.1.2, ⟨hk.1.1.1.1.2, ⟨hk.1.1.1.2, ⟨hk.1.1.2, ⟨hk.1.2, hk.2⟩⟩⟩⟩⟩)), (by (with_reducible repeat (first | apply Kd.R_alloc | apply Kd.R_drewN | apply Kd.R_drew)); exact Kd.R_mono HO152.out (fun _ hk => ⟨hk.1.1.1.1.1.2, ⟨hk.1.1.1.1.2, ⟨hk.1.1.1.2, ⟨hk.1.1.2, ⟨hk.1.2, hk.2⟩⟩⟩⟩⟩)), (qbf12 BK101.out), (qbf12 BK102.out), (qbf12 BK116.out), (qbf12 BK121.out), (qbf12 BK130.out), (qbf12 BK155.out), GW155.out, GE155.out, NB101_155.out, NB155_101.out, NB102_155.out, NB155_102.out, NB116_155.out, NB155_116.out, NB121_155.out, NB155_121.out, NB130_155.out, NB155_130.out, (qw6f12 HB.out GE101.out GE102.out GE116.out GE121.out GE130.out GE155.out)⟩)
                ·
                 skip
                 refine box_step ?hg (N := 16) ?hd (cs := #[.slice none 0 0, .int .i64 0]) (t := 30) ?hr ?_; (case hd => rfl); (case hg => rfl); (case hr => first | (go_simp; done) | (go_simp; rfl))
                 intro gb155 hg w96 hbox hb
                 have n0_ := Aside0.mk (Kd.R_below (qrf12 HO109.out) hb)
                 have n1_ := Aside0.mk (Kd.R_below (qrf12 HO113.out) hb)
                 have n2_ := Aside0.mk (Kd.R_below (qrf12 HO119.out) hb)
                 have n3_ := Aside0.mk (Kd.R_below (qrf12 HO127.out) hb)
                 have n4_ := Aside0.mk (Kd.R_below (qrf12 HO134.out) hb)
                 have n5_ := Aside0.mk (Kd.R_below (qrf12 HO148.out) hb)
                 have n6_ := Aside0.mk (blk_below (g := gb101) (o := .cells #[.int .i64 a0_0, .int .i64 a0_1, .int .i64 a0_2] 44 (0, 0)) (qbf12 BK101.out) hb)
                 have n7_ := Aside0.mk (blk_below (g := gb102) (o := .cells #[.slice A1_0 l1_0.length c1_0, .int .i64 a1_1] 27 (0, 0)) (qbf12 BK102.out) hb)
                 have n8_ := Aside0.mk (blk_below (g := gb116) (o := .cells #[.slice Ao51 t111.length co51, .int .i64 t114] 30 (0, 0)) (qbf12 BK116.out) hb)
                 have n9_ := Aside0.mk (blk_below (g := gb121) (o := .cells #[.slice Ao58 t117.length co58, .int .i64 t120] 30 (0, 0)) (qbf12 BK121.out) hb)
                 have n10_ := Aside0.mk (blk_below (g := gb130) (o := .cells #[.slice Ao69 t125.length co69, .int .i64 t128] 30 (0, 0)) (qbf12 BK130.out) hb)
                 have n11_ := Aside0.mk (below_step (qw5f12 HB.out GE101.out GE102.out GE116.out GE121.out GE130.out) hb)
                 have n12_ := Aside0.mk (hbox)
                 have n13_ := Aside0.mk ((by rw [hg]; exact (below_size (qw5f12 HB.out GE101.out GE102.out GE116.out GE121.out GE130.out)) : w.heap.size ≤ gb155))
                 have n14_ := Aside0.mk ((by rw [hg]; exact (below_size (qw5f12 HB.out GE101.out GE102.out GE116.out GE121.out GE130.out)) : w.heap.size ≤ gb155))
                 have n15_ := Aside0.mk ((by rw [hg]; exact Nat.ne_of_lt (blk_lt (g := gb101) (o := .cells #[.int .i64 a0_0, .int .i64 a0_1, .int .i64 a0_2] 44 (0, 0)) (qbf12 BK101.out)) : gb101 ≠ gb155))
                 have n16_ := Aside0.mk ((by rw [hg]; exact Nat.ne_of_gt (blk_lt (g := gb101) (o := .cells #[.int .i64 a0_0, .int .i64 a0_1, .int .i64 a0_2] 44 (0, 0)) (qbf12 BK101.out)) : gb155 ≠ gb101))
                 have n17_ := Aside0.mk ((by rw [hg]; exact Nat.ne_of_lt (blk_lt (g := gb102) (o := .cells #[.slice A1_0 l1_0.length c1_0, .int .i64 a1_1] 27 (0, 0)) (qbf12 BK102.out)) : gb102 ≠ gb155))
                 have n18_ := Aside0.mk ((by rw [hg]; exact Nat.ne_of_gt (blk_lt (g := gb102) (o := .cells #[.slice A1_0 l1_0.length c1_0, .int .i64 a1_1] 27 (0, 0)) (qbf12 BK102.out)) : gb155 ≠ gb102))
                 have n19_ := Aside0.mk ((by rw [hg]; exact Nat.ne_of_lt (blk_lt (g := gb116) (o := .cells #[.slice Ao51 t111.length co51, .int .i64 t114] 30 (0, 0)) (qbf12 BK116.out)) : gb116 ≠ gb155))
                 have n20_ := Aside0.mk ((by rw [hg]; exact Nat.ne_of_gt (blk_lt (g := gb116) (o := .cells #[.slice Ao51 t111.length co51, .int .i64 t114] 30 (0, 0)) (qbf12 BK116.out)) : gb155 ≠ gb116))
                 have n21_ := Aside0.mk ((by rw [hg]; exact Nat.ne_of_lt (blk_lt (g := gb121) (o := .cells #[.slice Ao58 t117.length co58, .int .i64 t120] 30 (0, 0)) (qbf12 BK121.out)) : gb121 ≠ gb155))
                 have n22_ := Aside0.mk ((by rw [hg]; exact Nat.ne_of_gt (blk_lt (g := gb121) (o := .cells #[.slice Ao58 t117.length co58, .int .i64 t120] 30 (0, 0)) (qbf12 BK121.out)) : gb155 ≠ gb121))
                 have n23_ := Aside0.mk ((by rw [hg]; exact Nat.ne_of_lt (blk_lt (g := gb130) (o := .cells #[.slice Ao69 t125.length co69, .int .i64 t128] 30 (0, 0)) (qbf12 BK130.out)) : gb130 ≠ gb155))
                 have n24_ := Aside0.mk ((by rw [hg]; exact Nat.ne_of_gt (blk_lt (g := gb130) (o := .cells #[.slice Ao69 t125.length co69, .int .i64 t128] 30 (0, 0)) (qbf12 BK130.out)) : gb155 ≠ gb130))
                 clear HO109
                 clear HO113
                 clear HO119
                 clear HO127
                 clear HO134
                 clear HO148
                 clear BK101
                 clear BK102
                 clear BK116
                 clear BK121
                 clear BK130
                 clear HB
                 have HO109 := n0_
                 have HO113 := n1_
                 have HO119 := n2_
                 have HO127 := n3_
                 have HO134 := n4_
                 have HO148 := n5_
                 have BK101 := n6_
                 have BK102 := n7_
                 have BK116 := n8_
                 have BK121 := n9_
                 have BK130 := n10_
                 have HB := n11_
                 have BK155 := n12_
                 have GW155 := n13_
                 have GE155 := n14_
                 have NB101_155 := n15_
                 have NB155_101 := n16_
                 have NB102_155 := n17_
                 have NB155_102 := n18_
                 have NB116_155 := n19_
                 have NB155_116 := n20_
                 have NB121_155 := n21_
                 have NB155_121 := n22_
                 have NB130_155 := n23_
                 have NB155_130 := n24_
                 clear n0_ n1_ n2_ n3_ n4_ n5_ n6_ n7_ n8_ n9_ n10_ n11_ n12_ n13_ n14_ n15_ n16_ n17_ n18_ n19_ n20_ n21_ n22_ n23_ n24_
                 clear hb hbox hg
                 obtain ⟨Ao97, co97, eo97⟩ := Kd.R_slice HO148.out
                 (first | subst eo97 | (injection eo97 with f1_ f2_ f3_; have f4_ := f1_.symm; have f5_ := f3_.symm; clear f1_ f2_ f3_; subst f4_; subst f5_))
                 refine hK.out _ _ ⟨(blk_cell BK101.out 0).trans rfl, (blk_cell BK101.out 1).trans rfl, (blk_cell BK101.out 2).trans rfl, (blk_cell BK102.out 0).trans rfl, (blk_cell BK102.out 1).trans rfl⟩ (fun hHeld => ?_)
                 clear hK K
                 refine norm_ (a' := ?_) ?_ ?_
                 rotate_left
                 ·
                  show Act.put _ (some 16) _ = _
                  exact qsf12
                 refine one_ (i := 5) (N := some 89) (rlf12 [6, 3, 1, 2]) rfl rfl (one_of HT_.out (by kernel_rfl)) (by decide) (fun K hK => ?_)
                 refine goes_ Try.func29 (by kernel_rfl) rfl #[.agg #[.int .i64 t143, .int .i64 t144, .int .i64 t145], .agg #[.slice Ao97 t146.length co97, .int .i64 t149], .int .i64 a2] (by rfl) rfl rfl qff12 ?_
                 with_reducible refine (impl_LockFail.calls k t143 t144 t145 _ _ t146 t149 a2 t150 t153 t154 _ ?side1 ?side2 A32.out).mono ?_
                 (case side1 => repeat (first | exact (Kd.R_reads' HO148.out).2.2 | (with_reducible refine Kd.C_alloc ?_ _) | (with_reducible refine Kd.C_drewN ?_ _) | (with_reducible refine Kd.C_drew ?_)))
                 (case side2 => exact (Kd.R_reads' HO148.out).2.1)
                 rintro e w98 ⟨v151, rfl, ho0, hb⟩
                 refine ⟨_, rfl, ?_⟩
                 have n0_ := Aside0.mk (Kd.R_elder' (qrf12 HO109.out) (Kd.R_base ho0) hb)
                 have n1_ := Aside0.mk (Kd.R_elder' (qrf12 HO113.out) (Kd.R_base ho0) hb)
                 have n2_ := Aside0.mk (Kd.R_elder' (qrf12 HO119.out) (Kd.R_base ho0) hb)
                 have n3_ := Aside0.mk (Kd.R_elder' (qrf12 HO127.out) (Kd.R_base ho0) hb)
                 have n4_ := Aside0.mk (Kd.R_elder' (qrf12 HO134.out) (Kd.R_base ho0) hb)
                 have n5_ := Aside0.mk (Kd.R_elder' (qrf12 HO148.out) (Kd.R_base ho0) hb)
                 have n6_ := Aside0.mk (Kd.R_lower (Kd.R_new' (Kd.R_new' (Kd.R_new' (Kd.R_new' (Kd.R_new' (Kd.R_new' ho0 (Kd.R_lt (qrf12 HO109.out))) (Kd.R_lt (qrf12 HO113.out))) (Kd.R_lt (qrf12 HO119.out))) (Kd.R_lt (qrf12 HO127.out))) (Kd.R_lt (qrf12 HO134.out))) (Kd.R_lt (qrf12 HO148.out))) (below_size (qw6f12 HB.out GE101.out GE102.out GE116.out GE121.out GE130.out GE155.out)))
                 have n7_ := Aside0.mk (blk_below (g := gb101) (o := .cells #[.int .i64 a0_0, .int .i64 a0_1, .int .i64 a0_2] 44 (0, 0)) (qbf12 BK101.out) hb)
                 have n8_ := Aside0.mk (blk_below (g := gb102) (o := .cells #[.slice A1_0 l1_0.length c1_0, .int .i64 a1_1] 27 (0, 0)) (qbf12 BK102.out) hb)
                 have n9_ := Aside0.mk (blk_below (g := gb116) (o := .cells #[.slice Ao51 t111.length co51, .int .i64 t114] 30 (0, 0)) (qbf12 BK116.out) hb)
                 have n10_ := Aside0.mk (blk_below (g := gb121) (o := .cells #[.slice Ao58 t117.length co58, .int .i64 t120] 30 (0, 0)) (qbf12 BK121.out) hb)
                 have n11_ := Aside0.mk (blk_below (g := gb130) (o := .cells #[.slice Ao69 t125.length co69, .int .i64 t128] 30 (0, 0)) (qbf12 BK130.out) hb)
                 have n12_ := Aside0.mk (blk_below (g := gb155) (o := .cells #[.slice none 0 0, .int .i64 0] 30 (0, 0)) (qbf12 BK155.out) hb)
                 have n13_ := Aside0.mk (below_step (qw6f12 HB.out GE101.out GE102.out GE116.out GE121.out GE130.out GE155.out) hb)
                 clear HO109
                 clear HO113
                 clear HO119
                 clear HO127
                 clear HO134
                 clear HO148
                 clear BK101
                 clear BK102
                 clear BK116
                 clear BK121
                 clear BK130
                 clear BK155
                 clear HB
                 have HO109 := n0_
                 have HO113 := n1_
                 have HO119 := n2_
                 have HO127 := n3_
                 have HO134 := n4_
                 have HO148 := n5_
                 have HO152 := n6_
                 have BK101 := n7_
                 have BK102 := n8_
                 have BK116 := n9_
                 have BK121 := n10_
                 have BK130 := n11_
                 have BK155 := n12_
                 have HB := n13_
                 clear n0_ n1_ n2_ n3_ n4_ n5_ n6_ n7_ n8_ n9_ n10_ n11_ n12_ n13_
                 (try clear hb)
                 (try clear hb2)
                 (try clear hk)
                 (try clear hi)
                 (try clear ho0)
                 refine hK.out _ _ ⟨(blk_cell BK101.out 0).trans rfl, (blk_cell BK101.out 1).trans rfl, (blk_cell BK101.out 2).trans rfl, (blk_cell BK102.out 0).trans rfl, (blk_cell BK102.out 1).trans rfl⟩ (fun hHeld => ?_)
                 clear hK K
                 refine norm_ (a' := ?_) ?_ ?_
                 rotate_left
                 ·
                  show Act.put _ (some 89) _ = _
                  exact qsf12
                 refine pure_ (i := 6) (N := some 83) (v := ?_) (a' := ?_) (rlf12 [7, 2, 1, 2]) rfl rfl (any_of HT_.out (by kernel_rfl)) (fun _ _ _ h => h) (Or.inl ⟨by rfl, ?_⟩) ?_ ?_
                 rotate_left
                 ·
                  intro w'
                  go_simp
                  with_reducible rfl
                 rotate_left
                 ·
                  exact qsf12
                 refine pure_ (i := 7) (N := some 90) (v := ?_) (a' := ?_) (rlf12 [8, 1, 1, 2]) rfl rfl (any_of HT_.out (by kernel_rfl)) (fun _ _ _ h => h) (Or.inl ⟨by rfl, ?_⟩) ?_ ?_
                 rotate_left
                 ·
                  intro w'
                  go_simp
                  with_reducible rfl
                 rotate_left
                 ·
                  exact qsf12
                 refine pure_ (i := 8) (N := some 91) (v := ?_) (a' := ?_) (rlf12 [10, 2]) rfl rfl (any_of HT_.out (by kernel_rfl)) (fun _ _ _ h => h) (Or.inl ⟨by rfl, ?_⟩) ?_ ?_
                 rotate_left
                 ·
                  intro w'
                  go_simp
                  with_reducible rfl
                 rotate_left
                 ·
                  exact qsf12
                 exact norm_ (by simp only [putAll, Act.put, List.setIfInBounds_toArray, List.set_cons_zero, List.set_cons_succ]) (hCont (.slice Ao97 t146.length co97, v151, gb155) _ ⟨hHeld, (by (with_reducible repeat (first | apply Kd.R_alloc | apply Kd.R_drewN | apply Kd.R_drew)); exact Kd.R_mono HO109.out (fun _ hk => ⟨hk.1.1.1, ⟨hk.1.1.2.1, ⟨hk.1.1.2.2.1, ⟨hk.1.1.2.2.2, ⟨hk.1.2, hk.2⟩⟩⟩⟩⟩)), (by (with_reducible repeat (first | apply Kd.R_alloc | apply Kd.R_drewN | apply Kd.R_drew)); exact Kd.R_mono HO113.out (fun _ hk => ⟨hk.1.1.1, ⟨hk.1.1.2.1, ⟨hk.1.1.2.2.1, ⟨hk.1.1.2.2.2, ⟨hk.1.2, hk.2⟩⟩⟩⟩⟩)), (by (with_reducible repeat (first | apply Kd.R_alloc | apply Kd.R_drewN | apply Kd.R_drew)); exact Kd.R_mono HO119.out (fun _ hk => ⟨hk.1.1.1, ⟨hk.1.1.2.1, ⟨hk.1.1.2.2.1, ⟨hk.1.1.2.2.2, ⟨hk.1.2, hk.2⟩⟩⟩⟩⟩)), (by (with_reducible repeat (first | apply Kd.R_alloc | apply Kd.R_drewN | apply Kd.R_drew)); exact Kd.R_mono HO127.out (fun _ hk => ⟨hk.1.1.1, ⟨hk.1.1.2.1, ⟨hk.1.1.2.2.1, ⟨hk.1.1.2.2.2, ⟨hk.1.2, hk.2⟩⟩⟩⟩⟩)), (by (with_reducible repeat (first | apply Kd.R_alloc | apply Kd.R_drewN | apply Kd.R_drew)); exact Kd.R_mono HO134.out (fun _ hk => ⟨hk.1.1.1, ⟨hk.1.1.2.1, ⟨hk.1.1.2.2.1, ⟨hk.1.1.2.2.2, ⟨hk.1.2, hk.2⟩⟩⟩⟩⟩)), (by (with_reducible repeat (first | apply Kd.R_alloc | apply Kd.R_drewN | apply Kd.R_drew)); exact Kd.R_mono HO148.out (fun _ hk => ⟨hk.1.1.1.1.1.2, ⟨hk.1.1.1.1.2, ⟨hk.1.1.1.2, ⟨hk.1.1.2, ⟨hk.1.2, hk.2⟩⟩⟩⟩⟩)), (by (with_reducible repeat (first | apply Kd.R_alloc | apply Kd.R_drewN | apply Kd.R_drew)); exact Kd.R_mono HO152.out (fun _ hk => ⟨hk.1.1.1.1.1.2, ⟨hk.1.1.1.1.2, ⟨hk.1.1.1.2, ⟨hk.1.1.2, ⟨hk.1.2, hk.2⟩⟩⟩⟩⟩)), (qbf12 BK101.out), (qbf12 BK102.out), (qbf12 BK116.out), (qbf12 BK121.out), (qbf12 BK130.out), (qbf12 BK155.out), GW155.out, GE155.out, NB101_155.out, NB155_101.out, NB102_155.out, NB155_102.out, NB116_155.out, NB155_116.out, NB121_155.out, NB155_121.out, NB130_155.out, NB155_130.out, (qw6f12 HB.out GE101.out GE102.out GE116.out GE121.out GE130.out GE155.out)⟩)
               ·
                skip
                refine box_step ?hg (N := 16) ?hd (cs := #[.slice none 0 0, .int .i64 0]) (t := 30) ?hr ?_; (case hd => rfl); (case hg => rfl); (case hr => first | (go_simp; done) | (go_simp; rfl))
                intro gb155 hg w95 hbox hb
                have n0_ := Aside0.mk (Kd.R_below (qrf12 HO109.out) hb)
                have n1_ := Aside0.mk (Kd.R_below (qrf12 HO113.out) hb)
                have n2_ := Aside0.mk (Kd.R_below (qrf12 HO119.out) hb)
                have n3_ := Aside0.mk (Kd.R_below (qrf12 HO127.out) hb)
                have n4_ := Aside0.mk (Kd.R_below (qrf12 HO134.out) hb)
                have n5_ := Aside0.mk (blk_below (g := gb101) (o := .cells #[.int .i64 a0_0, .int .i64 a0_1, .int .i64 a0_2] 44 (0, 0)) (qbf12 BK101.out) hb)
                have n6_ := Aside0.mk (blk_below (g := gb102) (o := .cells #[.slice A1_0 l1_0.length c1_0, .int .i64 a1_1] 27 (0, 0)) (qbf12 BK102.out) hb)
                have n7_ := Aside0.mk (blk_below (g := gb116) (o := .cells #[.slice Ao51 t111.length co51, .int .i64 t114] 30 (0, 0)) (qbf12 BK116.out) hb)
                have n8_ := Aside0.mk (blk_below (g := gb121) (o := .cells #[.slice Ao58 t117.length co58, .int .i64 t120] 30 (0, 0)) (qbf12 BK121.out) hb)
                have n9_ := Aside0.mk (blk_below (g := gb130) (o := .cells #[.slice Ao69 t125.length co69, .int .i64 t128] 30 (0, 0)) (qbf12 BK130.out) hb)
                have n10_ := Aside0.mk (below_step (qw5f12 HB.out GE101.out GE102.out GE116.out GE121.out GE130.out) hb)
                have n11_ := Aside0.mk (hbox)
                have n12_ := Aside0.mk ((by rw [hg]; exact (below_size (qw5f12 HB.out GE101.out GE102.out GE116.out GE121.out GE130.out)) : w.heap.size ≤ gb155))
                have n13_ := Aside0.mk ((by rw [hg]; exact (below_size (qw5f12 HB.out GE101.out GE102.out GE116.out GE121.out GE130.out)) : w.heap.size ≤ gb155))
                have n14_ := Aside0.mk ((by rw [hg]; exact Nat.ne_of_lt (blk_lt (g := gb101) (o := .cells #[.int .i64 a0_0, .int .i64 a0_1, .int .i64 a0_2] 44 (0, 0)) (qbf12 BK101.out)) : gb101 ≠ gb155))
                have n15_ := Aside0.mk ((by rw [hg]; exact Nat.ne_of_gt (blk_lt (g := gb101) (o := .cells #[.int .i64 a0_0, .int .i64 a0_1, .int .i64 a0_2] 44 (0, 0)) (qbf12 BK101.out)) : gb155 ≠ gb101))
                have n16_ := Aside0.mk ((by rw [hg]; exact Nat.ne_of_lt (blk_lt (g := gb102) (o := .cells #[.slice A1_0 l1_0.length c1_0, .int .i64 a1_1] 27 (0, 0)) (qbf12 BK102.out)) : gb102 ≠ gb155))
                have n17_ := Aside0.mk ((by rw [hg]; exact Nat.ne_of_gt (blk_lt (g := gb102) (o := .cells #[.slice A1_0 l1_0.length c1_0, .int .i64 a1_1] 27 (0, 0)) (qbf12 BK102.out)) : gb155 ≠ gb102))
                have n18_ := Aside0.mk ((by rw [hg]; exact Nat.ne_of_lt (blk_lt (g := gb116) (o := .cells #[.slice Ao51 t111.length co51, .int .i64 t114] 30 (0, 0)) (qbf12 BK116.out)) : gb116 ≠ gb155))
                have n19_ := Aside0.mk ((by rw [hg]; exact Nat.ne_of_gt (blk_lt (g := gb116) (o := .cells #[.slice Ao51 t111.length co51, .int .i64 t114] 30 (0, 0)) (qbf12 BK116.out)) : gb155 ≠ gb116))
                have n20_ := Aside0.mk ((by rw [hg]; exact Nat.ne_of_lt (blk_lt (g := gb121) (o := .cells #[.slice Ao58 t117.length co58, .int .i64 t120] 30 (0, 0)) (qbf12 BK121.out)) : gb121 ≠ gb155))
                have n21_ := Aside0.mk ((by rw [hg]; exact Nat.ne_of_gt (blk_lt (g := gb121) (o := .cells #[.slice Ao58 t117.length co58, .int .i64 t120] 30 (0, 0)) (qbf12 BK121.out)) : gb155 ≠ gb121))
                have n22_ := Aside0.mk ((by rw [hg]; exact Nat.ne_of_lt (blk_lt (g := gb130) (o := .cells #[.slice Ao69 t125.length co69, .int .i64 t128] 30 (0, 0)) (qbf12 BK130.out)) : gb130 ≠ gb155))
                have n23_ := Aside0.mk ((by rw [hg]; exact Nat.ne_of_gt (blk_lt (g := gb130) (o := .cells #[.slice Ao69 t125.length co69, .int .i64 t128] 30 (0, 0)) (qbf12 BK130.out)) : gb155 ≠ gb130))
                clear HO109
                clear HO113
                clear HO119
                clear HO127
                clear HO134
                clear BK101
                clear BK102
                clear BK116
                clear BK121
                clear BK130
                clear HB
                have HO109 := n0_
                have HO113 := n1_
                have HO119 := n2_
                have HO127 := n3_
                have HO134 := n4_
                have BK101 := n5_
                have BK102 := n6_
                have BK116 := n7_
                have BK121 := n8_
                have BK130 := n9_
                have HB := n10_
                have BK155 := n11_
                have GW155 := n12_
                have GE155 := n13_
                have NB101_155 := n14_
                have NB155_101 := n15_
                have NB102_155 := n16_
                have NB155_102 := n17_
                have NB116_155 := n18_
                have NB155_116 := n19_
                have NB121_155 := n20_
                have NB155_121 := n21_
                have NB130_155 := n22_
                have NB155_130 := n23_
                clear n0_ n1_ n2_ n3_ n4_ n5_ n6_ n7_ n8_ n9_ n10_ n11_ n12_ n13_ n14_ n15_ n16_ n17_ n18_ n19_ n20_ n21_ n22_ n23_
                clear hb hbox hg
                refine hK.out _ _ ⟨(blk_cell BK101.out 0).trans rfl, (blk_cell BK101.out 1).trans rfl, (blk_cell BK101.out 2).trans rfl, (blk_cell BK102.out 0).trans rfl, (blk_cell BK102.out 1).trans rfl⟩ (fun hHeld => ?_)
                clear hK K
                refine norm_ (a' := ?_) ?_ ?_
                rotate_left
                ·
                 show Act.put _ (some 16) _ = _
                 exact qsf12
                refine one_ (i := 3) (N := some 87) (rlf12 [5, 4, 1, 2]) rfl rfl (one_of HT_.out (by kernel_rfl)) (by decide) (fun K hK => ?_)
                refine goes_ Try.func21 (by kernel_rfl) rfl #[.agg #[.slice A1_0 l1_0.length c1_0, .int .i64 a1_1]] (by rfl) rfl rfl qff12 ?_
                with_reducible refine (laws_toLock.calls k _ _ l1_0 a1_1 t146 t149 _ ?side1 ?side2 A31.out).mono ?_
                (case side1 => repeat (first | exact (Kd.C_below HR1_0.out HB.out) | (with_reducible refine Kd.C_alloc ?_ _) | (with_reducible refine Kd.C_drewN ?_ _) | (with_reducible refine Kd.C_drew ?_)))
                (case side2 => exact HC1_0.out)
                rintro e w96 ⟨v147, rfl, ho0, hb⟩
                refine ⟨_, rfl, ?_⟩
                have n0_ := Aside0.mk (Kd.R_elder' (qrf12 HO109.out) (Kd.R_base ho0) hb)
                have n1_ := Aside0.mk (Kd.R_elder' (qrf12 HO113.out) (Kd.R_base ho0) hb)
                have n2_ := Aside0.mk (Kd.R_elder' (qrf12 HO119.out) (Kd.R_base ho0) hb)
                have n3_ := Aside0.mk (Kd.R_elder' (qrf12 HO127.out) (Kd.R_base ho0) hb)
                have n4_ := Aside0.mk (Kd.R_elder' (qrf12 HO134.out) (Kd.R_base ho0) hb)
                have n5_ := Aside0.mk (Kd.R_lower (Kd.R_new' (Kd.R_new' (Kd.R_new' (Kd.R_new' (Kd.R_new' ho0 (Kd.R_lt (qrf12 HO109.out))) (Kd.R_lt (qrf12 HO113.out))) (Kd.R_lt (qrf12 HO119.out))) (Kd.R_lt (qrf12 HO127.out))) (Kd.R_lt (qrf12 HO134.out))) (below_size (qw6f12 HB.out GE101.out GE102.out GE116.out GE121.out GE130.out GE155.out)))
                have n6_ := Aside0.mk (blk_below (g := gb101) (o := .cells #[.int .i64 a0_0, .int .i64 a0_1, .int .i64 a0_2] 44 (0, 0)) (qbf12 BK101.out) hb)
                have n7_ := Aside0.mk (blk_below (g := gb102) (o := .cells #[.slice A1_0 l1_0.length c1_0, .int .i64 a1_1] 27 (0, 0)) (qbf12 BK102.out) hb)
                have n8_ := Aside0.mk (blk_below (g := gb116) (o := .cells #[.slice Ao51 t111.length co51, .int .i64 t114] 30 (0, 0)) (qbf12 BK116.out) hb)
                have n9_ := Aside0.mk (blk_below (g := gb121) (o := .cells #[.slice Ao58 t117.length co58, .int .i64 t120] 30 (0, 0)) (qbf12 BK121.out) hb)
                have n10_ := Aside0.mk (blk_below (g := gb130) (o := .cells #[.slice Ao69 t125.length co69, .int .i64 t128] 30 (0, 0)) (qbf12 BK130.out) hb)
                have n11_ := Aside0.mk (blk_below (g := gb155) (o := .cells #[.slice none 0 0, .int .i64 0] 30 (0, 0)) (qbf12 BK155.out) hb)
                have n12_ := Aside0.mk (below_step (qw6f12 HB.out GE101.out GE102.out GE116.out GE121.out GE130.out GE155.out) hb)
                clear HO109
                clear HO113
                clear HO119
                clear HO127
                clear HO134
                clear BK101
                clear BK102
                clear BK116
                clear BK121
                clear BK130
                clear BK155
                clear HB
                have HO109 := n0_
                have HO113 := n1_
                have HO119 := n2_
                have HO127 := n3_
                have HO134 := n4_
                have HO148 := n5_
                have BK101 := n6_
                have BK102 := n7_
                have BK116 := n8_
                have BK121 := n9_
                have BK130 := n10_
                have BK155 := n11_
                have HB := n12_
                clear n0_ n1_ n2_ n3_ n4_ n5_ n6_ n7_ n8_ n9_ n10_ n11_ n12_
                (try clear hb)
                (try clear hb2)
                (try clear hk)
                (try clear hi)
                (try clear ho0)
                obtain ⟨Ao97, co97, eo97⟩ := Kd.R_slice HO148.out
                (first | subst eo97 | (injection eo97 with f1_ f2_ f3_; have f4_ := f1_.symm; have f5_ := f3_.symm; clear f1_ f2_ f3_; subst f4_; subst f5_))
                refine hK.out _ _ ⟨(blk_cell BK101.out 0).trans rfl, (blk_cell BK101.out 1).trans rfl, (blk_cell BK101.out 2).trans rfl, (blk_cell BK102.out 0).trans rfl, (blk_cell BK102.out 1).trans rfl⟩ (fun hHeld => ?_)
                clear hK K
                refine norm_ (a' := ?_) ?_ ?_
                rotate_left
                ·
                 show Act.put _ (some 87) _ = _
                 exact qsf12
                refine one_ (i := 5) (N := some 89) (rlf12 [6, 3, 1, 2]) rfl rfl (one_of HT_.out (by kernel_rfl)) (by decide) (fun K hK => ?_)
                refine goes_ Try.func29 (by kernel_rfl) rfl #[.agg #[.int .i64 t143, .int .i64 t144, .int .i64 t145], .agg #[.slice Ao97 t146.length co97, .int .i64 t149], .int .i64 a2] (by rfl) rfl rfl qff12 ?_
                with_reducible refine (impl_LockFail.calls k t143 t144 t145 _ _ t146 t149 a2 t150 t153 t154 _ ?side1 ?side2 A32.out).mono ?_
                (case side1 => repeat (first | exact (Kd.R_reads' HO148.out).2.2 | (with_reducible refine Kd.C_alloc ?_ _) | (with_reducible refine Kd.C_drewN ?_ _) | (with_reducible refine Kd.C_drew ?_)))
                (case side2 => exact (Kd.R_reads' HO148.out).2.1)
                rintro e w98 ⟨v151, rfl, ho0, hb⟩
                refine ⟨_, rfl, ?_⟩
                have n0_ := Aside0.mk (Kd.R_elder' (qrf12 HO109.out) (Kd.R_base ho0) hb)
                have n1_ := Aside0.mk (Kd.R_elder' (qrf12 HO113.out) (Kd.R_base ho0) hb)
                have n2_ := Aside0.mk (Kd.R_elder' (qrf12 HO119.out) (Kd.R_base ho0) hb)
                have n3_ := Aside0.mk (Kd.R_elder' (qrf12 HO127.out) (Kd.R_base ho0) hb)
                have n4_ := Aside0.mk (Kd.R_elder' (qrf12 HO134.out) (Kd.R_base ho0) hb)
                have n5_ := Aside0.mk (Kd.R_elder' (qrf12 HO148.out) (Kd.R_base ho0) hb)
                have n6_ := Aside0.mk (Kd.R_lower (Kd.R_new' (Kd.R_new' (Kd.R_new' (Kd.R_new' (Kd.R_new' (Kd.R_new' ho0 (Kd.R_lt (qrf12 HO109.out))) (Kd.R_lt (qrf12 HO113.out))) (Kd.R_lt (qrf12 HO119.out))) (Kd.R_lt (qrf12 HO127.out))) (Kd.R_lt (qrf12 HO134.out))) (Kd.R_lt (qrf12 HO148.out))) (below_size (qw6f12 HB.out GE101.out GE102.out GE116.out GE121.out GE130.out GE155.out)))
                have n7_ := Aside0.mk (blk_below (g := gb101) (o := .cells #[.int .i64 a0_0, .int .i64 a0_1, .int .i64 a0_2] 44 (0, 0)) (qbf12 BK101.out) hb)
                have n8_ := Aside0.mk (blk_below (g := gb102) (o := .cells #[.slice A1_0 l1_0.length c1_0, .int .i64 a1_1] 27 (0, 0)) (qbf12 BK102.out) hb)
                have n9_ := Aside0.mk (blk_below (g := gb116) (o := .cells #[.slice Ao51 t111.length co51, .int .i64 t114] 30 (0, 0)) (qbf12 BK116.out) hb)
                have n10_ := Aside0.mk (blk_below (g := gb121) (o := .cells #[.slice Ao58 t117.length co58, .int .i64 t120] 30 (0, 0)) (qbf12 BK121.out) hb)
                have n11_ := Aside0.mk (blk_below (g := gb130) (o := .cells #[.slice Ao69 t125.length co69, .int .i64 t128] 30 (0, 0)) (qbf12 BK130.out) hb)
                have n12_ := Aside0.mk (blk_below (g := gb155) (o := .cells #[.slice none 0 0, .int .i64 0] 30 (0, 0)) (qbf12 BK155.out) hb)
                have n13_ := Aside0.mk (below_step (qw6f12 HB.out GE101.out GE102.out GE116.out GE121.out GE130.out GE155.out) hb)
                clear HO109
                clear HO113
                clear HO119
                clear HO127
                clear HO134
                clear HO148
                clear BK101
                clear BK102
                clear BK116
                clear BK121
                clear BK130
                clear BK155
                clear HB
                have HO109 := n0_
                have HO113 := n1_
                have HO119 := n2_
                have HO127 := n3_
                have HO134 := n4_
                have HO148 := n5_
                have HO152 := n6_
                have BK101 := n7_
                have BK102 := n8_
                have BK116 := n9_
                have BK121 := n10_
                have BK130 := n11_
                have BK155 := n12_
                have HB := n13_
                clear n0_ n1_ n2_ n3_ n4_ n5_ n6_ n7_ n8_ n9_ n10_ n11_ n12_ n13_
                (try clear hb)
                (try clear hb2)
                (try clear hk)
                (try clear hi)
                (try clear ho0)
                refine hK.out _ _ ⟨(blk_cell BK101.out 0).trans rfl, (blk_cell BK101.out 1).trans rfl, (blk_cell BK101.out 2).trans rfl, (blk_cell BK102.out 0).trans rfl, (blk_cell BK102.out 1).trans rfl⟩ (fun hHeld => ?_)
                clear hK K
                refine norm_ (a' := ?_) ?_ ?_
                rotate_left
                ·
                 show Act.put _ (some 89) _ = _
                 exact qsf12
                refine pure_ (i := 6) (N := some 83) (v := ?_) (a' := ?_) (rlf12 [7, 2, 1, 2]) rfl rfl (any_of HT_.out (by kernel_rfl)) (fun _ _ _ h => h) (Or.inl ⟨by rfl, ?_⟩) ?_ ?_
                rotate_left
                ·
                 intro w'
                 go_simp
                 with_reducible rfl
                rotate_left
                ·
                 exact qsf12
                refine pure_ (i := 7) (N := some 90) (v := ?_) (a' := ?_) (rlf12 [8, 1, 1, 2]) rfl rfl (any_of HT_.out (by kernel_rfl)) (fun _ _ _ h => h) (Or.inl ⟨by rfl, ?_⟩) ?_ ?_
                rotate_left
                ·
                 intro w'
                 go_simp
                 with_reducible rfl
                rotate_left
                ·
                 exact qsf12
                refine pure_ (i := 8) (N := some 91) (v := ?_) (a' := ?_) (rlf12 [10, 2]) rfl rfl (any_of HT_.out (by kernel_rfl)) (fun _ _ _ h => h) (Or.inl ⟨by rfl, ?_⟩) ?_ ?_
                rotate_left
                ·
                 intro w'
                 go_simp
                 with_reducible rfl
                rotate_left
                ·
                 exact qsf12
                exact norm_ (by simp only [putAll, Act.put, List.setIfInBounds_toArray, List.set_cons_zero, List.set_cons_succ]) (hCont (.slice Ao97 t146.length co97, v151, gb155) _ ⟨hHeld, (by (with_reducible repeat (first | apply Kd.R_alloc | apply Kd.R_drewN | apply Kd.R_drew)); exact Kd.R_mono HO109.out (fun _ hk => ⟨hk.1.1.1, ⟨hk.1.1.2.1, ⟨hk.1.1.2.2.1, ⟨hk.1.1.2.2.2, ⟨hk.1.2, hk.2⟩⟩⟩⟩⟩)), (by (with_reducible repeat (first | apply Kd.R_alloc | apply Kd.R_drewN | apply Kd.R_drew)); exact Kd.R_mono HO113.out (fun _ hk => ⟨hk.1.1.1, ⟨hk.1.1.2.1, ⟨hk.1.1.2.2.1, ⟨hk.1.1.2.2.2, ⟨hk.1.2, hk.2⟩⟩⟩⟩⟩)), (by (with_reducible repeat (first | apply Kd.R_alloc | apply Kd.R_drewN | apply Kd.R_drew)); exact Kd.R_mono HO119.out (fun _ hk => ⟨hk.1.1.1, ⟨hk.1.1.2.1, ⟨hk.1.1.2.2.1, ⟨hk.1.1.2.2.2, ⟨hk.1.2, hk.2⟩⟩⟩⟩⟩)), (by (with_reducible repeat (first | apply Kd.R_alloc | apply Kd.R_drewN | apply Kd.R_drew)); exact Kd.R_mono HO127.out (fun _ hk => ⟨hk.1.1.1, ⟨hk.1.1.2.1, ⟨hk.1.1.2.2.1, ⟨hk.1.1.2.2.2, ⟨hk.1.2, hk.2⟩⟩⟩⟩⟩)), (by (with_reducible repeat (first | apply Kd.R_alloc | apply Kd.R_drewN | apply Kd.R_drew)); exact Kd.R_mono HO134.out (fun _ hk => ⟨hk.1.1.1, ⟨hk.1.1.2.1, ⟨hk.1.1.2.2.1, ⟨hk.1.1.2.2.2, ⟨hk.1.2, hk.2⟩⟩⟩⟩⟩)), (by (with_reducible repeat (first | apply Kd.R_alloc | apply Kd.R_drewN | apply Kd.R_drew)); exact Kd.R_mono HO148.out (fun _ hk => ⟨hk.1.1.1.1.1.2, ⟨hk.1.1.1.1.2, ⟨hk.1.1.1.2, ⟨hk.1.1.2, ⟨hk.1.2, hk.2⟩⟩⟩⟩⟩)), (by (with_reducible repeat (first | apply Kd.R_alloc | apply Kd.R_drewN | apply Kd.R_drew)); exact Kd.R_mono HO152.out (fun _ hk => ⟨hk.1.1.1.1.1.2, ⟨hk.1.1.1.1.2, ⟨hk.1.1.1.2, ⟨hk.1.1.2, ⟨hk.1.2, hk.2⟩⟩⟩⟩⟩)), (qbf12 BK101.out), (qbf12 BK102.out), (qbf12 BK116.out), (qbf12 BK121.out), (qbf12 BK130.out), (qbf12 BK155.out), GW155.out, GE155.out, NB101_155.out, NB155_101.out, NB102_155.out, NB155_102.out, NB116_155.out, NB155_116.out, NB121_155.out, NB155_121.out, NB130_155.out, NB155_130.out, (qw6f12 HB.out GE101.out GE102.out GE116.out GE121.out GE130.out GE155.out)⟩)
              ·
               skip
               refine box_step ?hg (N := 16) ?hd (cs := #[.slice none 0 0, .int .i64 0]) (t := 30) ?hr ?_; (case hd => rfl); (case hg => rfl); (case hr => first | (go_simp; done) | (go_simp; rfl))
               intro gb155 hg w94 hbox hb
               have n0_ := Aside0.mk (Kd.R_below (qrf12 HO109.out) hb)
               have n1_ := Aside0.mk (Kd.R_below (qrf12 HO113.out) hb)
               have n2_ := Aside0.mk (Kd.R_below (qrf12 HO119.out) hb)
               have n3_ := Aside0.mk (Kd.R_below (qrf12 HO127.out) hb)
               have n4_ := Aside0.mk (Kd.R_below (qrf12 HO134.out) hb)
               have n5_ := Aside0.mk (blk_below (g := gb101) (o := .cells #[.int .i64 a0_0, .int .i64 a0_1, .int .i64 a0_2] 44 (0, 0)) (qbf12 BK101.out) hb)
               have n6_ := Aside0.mk (blk_below (g := gb102) (o := .cells #[.slice A1_0 l1_0.length c1_0, .int .i64 a1_1] 27 (0, 0)) (qbf12 BK102.out) hb)
               have n7_ := Aside0.mk (blk_below (g := gb116) (o := .cells #[.slice Ao51 t111.length co51, .int .i64 t114] 30 (0, 0)) (qbf12 BK116.out) hb)
               have n8_ := Aside0.mk (blk_below (g := gb121) (o := .cells #[.slice Ao58 t117.length co58, .int .i64 t120] 30 (0, 0)) (qbf12 BK121.out) hb)
               have n9_ := Aside0.mk (blk_below (g := gb130) (o := .cells #[.slice Ao69 t125.length co69, .int .i64 t128] 30 (0, 0)) (qbf12 BK130.out) hb)
               have n10_ := Aside0.mk (below_step (qw5f12 HB.out GE101.out GE102.out GE116.out GE121.out GE130.out) hb)
               have n11_ := Aside0.mk (hbox)
               have n12_ := Aside0.mk ((by rw [hg]; exact (below_size (qw5f12 HB.out GE101.out GE102.out GE116.out GE121.out GE130.out)) : w.heap.size ≤ gb155))
               have n13_ := Aside0.mk ((by rw [hg]; exact (below_size (qw5f12 HB.out GE101.out GE102.out GE116.out GE121.out GE130.out)) : w.heap.size ≤ gb155))
               have n14_ := Aside0.mk ((by rw [hg]; exact Nat.ne_of_lt (blk_lt (g := gb101) (o := .cells #[.int .i64 a0_0, .int .i64 a0_1, .int .i64 a0_2] 44 (0, 0)) (qbf12 BK101.out)) : gb101 ≠ gb155))
               have n15_ := Aside0.mk ((by rw [hg]; exact Nat.ne_of_gt (blk_lt (g := gb101) (o := .cells #[.int .i64 a0_0, .int .i64 a0_1, .int .i64 a0_2] 44 (0, 0)) (qbf12 BK101.out)) : gb155 ≠ gb101))
               have n16_ := Aside0.mk ((by rw [hg]; exact Nat.ne_of_lt (blk_lt (g := gb102) (o := .cells #[.slice A1_0 l1_0.length c1_0, .int .i64 a1_1] 27 (0, 0)) (qbf12 BK102.out)) : gb102 ≠ gb155))
               have n17_ := Aside0.mk ((by rw [hg]; exact Nat.ne_of_gt (blk_lt (g := gb102) (o := .cells #[.slice A1_0 l1_0.length c1_0, .int .i64 a1_1] 27 (0, 0)) (qbf12 BK102.out)) : gb155 ≠ gb102))
               have n18_ := Aside0.mk ((by rw [hg]; exact Nat.ne_of_lt (blk_lt (g := gb116) (o := .cells #[.slice Ao51 t111.length co51, .int .i64 t114] 30 (0, 0)) (qbf12 BK116.out)) : gb116 ≠ gb155))
               have n19_ := Aside0.mk ((by rw [hg]; exact Nat.ne_of_gt (blk_lt (g := gb116) (o := .cells #[.slice Ao51 t111.length co51, .int .i64 t114] 30 (0, 0)) (qbf12 BK116.out)) : gb155 ≠ gb116))
               have n20_ := Aside0.mk ((by rw [hg]; exact Nat.ne_of_lt (blk_lt (g := gb121) (o := .cells #[.slice Ao58 t117.length co58, .int .i64 t120] 30 (0, 0)) (qbf12 BK121.out)) : gb121 ≠ gb155))
               have n21_ := Aside0.mk ((by rw [hg]; exact Nat.ne_of_gt (blk_lt (g := gb121) (o := .cells #[.slice Ao58 t117.length co58, .int .i64 t120] 30 (0, 0)) (qbf12 BK121.out)) : gb155 ≠ gb121))
               have n22_ := Aside0.mk ((by rw [hg]; exact Nat.ne_of_lt (blk_lt (g := gb130) (o := .cells #[.slice Ao69 t125.length co69, .int .i64 t128] 30 (0, 0)) (qbf12 BK130.out)) : gb130 ≠ gb155))
               have n23_ := Aside0.mk ((by rw [hg]; exact Nat.ne_of_gt (blk_lt (g := gb130) (o := .cells #[.slice Ao69 t125.length co69, .int .i64 t128] 30 (0, 0)) (qbf12 BK130.out)) : gb155 ≠ gb130))
               clear HO109
               clear HO113
               clear HO119
               clear HO127
               clear HO134
               clear BK101
               clear BK102
               clear BK116
               clear BK121
               clear BK130
               clear HB
               have HO109 := n0_
               have HO113 := n1_
               have HO119 := n2_
               have HO127 := n3_
               have HO134 := n4_
               have BK101 := n5_
               have BK102 := n6_
               have BK116 := n7_
               have BK121 := n8_
               have BK130 := n9_
               have HB := n10_
               have BK155 := n11_
               have GW155 := n12_
               have GE155 := n13_
               have NB101_155 := n14_
               have NB155_101 := n15_
               have NB102_155 := n16_
               have NB155_102 := n17_
               have NB116_155 := n18_
               have NB155_116 := n19_
               have NB121_155 := n20_
               have NB155_121 := n21_
               have NB130_155 := n22_
               have NB155_130 := n23_
               clear n0_ n1_ n2_ n3_ n4_ n5_ n6_ n7_ n8_ n9_ n10_ n11_ n12_ n13_ n14_ n15_ n16_ n17_ n18_ n19_ n20_ n21_ n22_ n23_
               clear hb hbox hg
               refine hK.out _ _ ⟨(blk_cell BK101.out 0).trans rfl, (blk_cell BK101.out 1).trans rfl, (blk_cell BK101.out 2).trans rfl, (blk_cell BK102.out 0).trans rfl, (blk_cell BK102.out 1).trans rfl⟩ (fun hHeld => ?_)
               clear hK K
               refine norm_ (a' := ?_) ?_ ?_
               rotate_left
               ·
                show Act.put _ (some 16) _ = _
                exact qsf12
               refine one_ (i := 1) (N := some 85) (rlf12 [3, 1, 1, 4, 1, 2]) rfl rfl (one_of HT_.out (by kernel_rfl)) (by decide) (fun K hK => ?_)
               refine goes_ Try.func31 (by kernel_rfl) rfl #[.agg #[.int .i64 a0_0, .int .i64 a0_1, .int .i64 a0_2]] (by rfl) rfl rfl qff12 ?_
               with_reducible refine (laws_toLockRule.calls a0_0 a0_1 a0_2 t143 t144 t145 _ A30.out).mono ?_
               rintro e w95 ⟨rfl, hb⟩
               refine ⟨_, rfl, ?_⟩
               have n0_ := Aside0.mk (Kd.R_below (qrf12 HO109.out) hb)
               have n1_ := Aside0.mk (Kd.R_below (qrf12 HO113.out) hb)
               have n2_ := Aside0.mk (Kd.R_below (qrf12 HO119.out) hb)
               have n3_ := Aside0.mk (Kd.R_below (qrf12 HO127.out) hb)
               have n4_ := Aside0.mk (Kd.R_below (qrf12 HO134.out) hb)
               have n5_ := Aside0.mk (blk_below (g := gb101) (o := .cells #[.int .i64 a0_0, .int .i64 a0_1, .int .i64 a0_2] 44 (0, 0)) (qbf12 BK101.out) hb)
               have n6_ := Aside0.mk (blk_below (g := gb102) (o := .cells #[.slice A1_0 l1_0.length c1_0, .int .i64 a1_1] 27 (0, 0)) (qbf12 BK102.out) hb)
               have n7_ := Aside0.mk (blk_below (g := gb116) (o := .cells #[.slice Ao51 t111.length co51, .int .i64 t114] 30 (0, 0)) (qbf12 BK116.out) hb)
               have n8_ := Aside0.mk (blk_below (g := gb121) (o := .cells #[.slice Ao58 t117.length co58, .int .i64 t120] 30 (0, 0)) (qbf12 BK121.out) hb)
               have n9_ := Aside0.mk (blk_below (g := gb130) (o := .cells #[.slice Ao69 t125.length co69, .int .i64 t128] 30 (0, 0)) (qbf12 BK130.out) hb)
               have n10_ := Aside0.mk (blk_below (g := gb155) (o := .cells #[.slice none 0 0, .int .i64 0] 30 (0, 0)) (qbf12 BK155.out) hb)
               have n11_ := Aside0.mk (below_step (qw6f12 HB.out GE101.out GE102.out GE116.out GE121.out GE130.out GE155.out) hb)
               clear HO109
               clear HO113
               clear HO119
               clear HO127
               clear HO134
               clear BK101
               clear BK102
               clear BK116
               clear BK121
               clear BK130
               clear BK155
               clear HB
               have HO109 := n0_
               have HO113 := n1_
               have HO119 := n2_
               have HO127 := n3_
               have HO134 := n4_
               have BK101 := n5_
               have BK102 := n6_
               have BK116 := n7_
               have BK121 := n8_
               have BK130 := n9_
               have BK155 := n10_
               have HB := n11_
               clear n0_ n1_ n2_ n3_ n4_ n5_ n6_ n7_ n8_ n9_ n10_ n11_
               (try clear hb)
               (try clear hb2)
               (try clear hk)
               (try clear hi)
               refine hK.out _ _ ⟨(blk_cell BK101.out 0).trans rfl, (blk_cell BK101.out 1).trans rfl, (blk_cell BK101.out 2).trans rfl, (blk_cell BK102.out 0).trans rfl, (blk_cell BK102.out 1).trans rfl⟩ (fun hHeld => ?_)
               clear hK K
               refine norm_ (a' := ?_) ?_ ?_
               rotate_left
               ·
                show Act.put _ (some 85) _ = _
                exact qsf12
               refine one_ (i := 3) (N := some 87) (rlf12 [5, 4, 1, 2]) rfl rfl (one_of HT_.out (by kernel_rfl)) (by decide) (fun K hK => ?_)
               refine goes_ Try.func21 (by kernel_rfl) rfl #[.agg #[.slice A1_0 l1_0.length c1_0, .int .i64 a1_1]] (by rfl) rfl rfl qff12 ?_
               with_reducible refine (laws_toLock.calls k _ _ l1_0 a1_1 t146 t149 _ ?side1 ?side2 A31.out).mono ?_
               (case side1 => repeat (first | exact (Kd.C_below HR1_0.out HB.out) | (with_reducible refine Kd.C_alloc ?_ _) | (with_reducible refine Kd.C_drewN ?_ _) | (with_reducible refine Kd.C_drew ?_)))
               (case side2 => exact HC1_0.out)
               rintro e w96 ⟨v147, rfl, ho0, hb⟩
               refine ⟨_, rfl, ?_⟩
               have n0_ := Aside0.mk (Kd.R_elder' (qrf12 HO109.out) (Kd.R_base ho0) hb)
               have n1_ := Aside0.mk (Kd.R_elder' (qrf12 HO113.out) (Kd.R_base ho0) hb)
               have n2_ := Aside0.mk (Kd.R_elder' (qrf12 HO119.out) (Kd.R_base ho0) hb)
               have n3_ := Aside0.mk (Kd.R_elder' (qrf12 HO127.out) (Kd.R_base ho0) hb)
               have n4_ := Aside0.mk (Kd.R_elder' (qrf12 HO134.out) (Kd.R_base ho0) hb)
               have n5_ := Aside0.mk (Kd.R_lower (Kd.R_new' (Kd.R_new' (Kd.R_new' (Kd.R_new' (Kd.R_new' ho0 (Kd.R_lt (qrf12 HO109.out))) (Kd.R_lt (qrf12 HO113.out))) (Kd.R_lt (qrf12 HO119.out))) (Kd.R_lt (qrf12 HO127.out))) (Kd.R_lt (qrf12 HO134.out))) (below_size (qw6f12 HB.out GE101.out GE102.out GE116.out GE121.out GE130.out GE155.out)))
               have n6_ := Aside0.mk (blk_below (g := gb101) (o := .cells #[.int .i64 a0_0, .int .i64 a0_1, .int .i64 a0_2] 44 (0, 0)) (qbf12 BK101.out) hb)
               have n7_ := Aside0.mk (blk_below (g := gb102) (o := .cells #[.slice A1_0 l1_0.length c1_0, .int .i64 a1_1] 27 (0, 0)) (qbf12 BK102.out) hb)
               have n8_ := Aside0.mk (blk_below (g := gb116) (o := .cells #[.slice Ao51 t111.length co51, .int .i64 t114] 30 (0, 0)) (qbf12 BK116.out) hb)
               have n9_ := Aside0.mk (blk_below (g := gb121) (o := .cells #[.slice Ao58 t117.length co58, .int .i64 t120] 30 (0, 0)) (qbf12 BK121.out) hb)
               have n10_ := Aside0.mk (blk_below (g := gb130) (o := .cells #[.slice Ao69 t125.length co69, .int .i64 t128] 30 (0, 0)) (qbf12 BK130.out) hb)
               have n11_ := Aside0.mk (blk_below (g := gb155) (o := .cells #[.slice none 0 0, .int .i64 0] 30 (0, 0)) (qbf12 BK155.out) hb)
               have n12_ := Aside0.mk (below_step (qw6f12 HB.out GE101.out GE102.out GE116.out GE121.out GE130.out GE155.out) hb)
               clear HO109
               clear HO113
               clear HO119
               clear HO127
               clear HO134
               clear BK101
               clear BK102
               clear BK116
               clear BK121
               clear BK130
               clear BK155
               clear HB
               have HO109 := n0_
               have HO113 := n1_
               have HO119 := n2_
               have HO127 := n3_
               have HO134 := n4_
               have HO148 := n5_
               have BK101 := n6_
               have BK102 := n7_
               have BK116 := n8_
               have BK121 := n9_
               have BK130 := n10_
               have BK155 := n11_
               have HB := n12_
               clear n0_ n1_ n2_ n3_ n4_ n5_ n6_ n7_ n8_ n9_ n10_ n11_ n12_
               (try clear hb)
               (try clear hb2)
               (try clear hk)
               (try clear hi)
               (try clear ho0)
               obtain ⟨Ao97, co97, eo97⟩ := Kd.R_slice HO148.out
               (first | subst eo97 | (injection eo97 with f1_ f2_ f3_; have f4_ := f1_.symm; have f5_ := f3_.symm; clear f1_ f2_ f3_; subst f4_; subst f5_))
               refine hK.out _ _ ⟨(blk_cell BK101.out 0).trans rfl, (blk_cell BK101.out 1).trans rfl, (blk_cell BK101.out 2).trans rfl, (blk_cell BK102.out 0).trans rfl, (blk_cell BK102.out 1).trans rfl⟩ (fun hHeld => ?_)
               clear hK K
               refine norm_ (a' := ?_) ?_ ?_
               rotate_left
               ·
                show Act.put _ (some 87) _ = _
                exact qsf12
               refine one_ (i := 5) (N := some 89) (rlf12 [6, 3, 1, 2]) rfl rfl (one_of HT_.out (by kernel_rfl)) (by decide) (fun K hK => ?_)
               refine goes_ Try.func29 (by kernel_rfl) rfl #[.agg #[.int .i64 t143, .int .i64 t144, .int .i64 t145], .agg #[.slice Ao97 t146.length co97, .int .i64 t149], .int .i64 a2] (by rfl) rfl rfl qff12 ?_
               with_reducible refine (impl_LockFail.calls k t143 t144 t145 _ _ t146 t149 a2 t150 t153 t154 _ ?side1 ?side2 A32.out).mono ?_
               (case side1 => repeat (first | exact (Kd.R_reads' HO148.out).2.2 | (with_reducible refine Kd.C_alloc ?_ _) | (with_reducible refine Kd.C_drewN ?_ _) | (with_reducible refine Kd.C_drew ?_)))
               (case side2 => exact (Kd.R_reads' HO148.out).2.1)
               rintro e w98 ⟨v151, rfl, ho0, hb⟩
               refine ⟨_, rfl, ?_⟩
               have n0_ := Aside0.mk (Kd.R_elder' (qrf12 HO109.out) (Kd.R_base ho0) hb)
               have n1_ := Aside0.mk (Kd.R_elder' (qrf12 HO113.out) (Kd.R_base ho0) hb)
               have n2_ := Aside0.mk (Kd.R_elder' (qrf12 HO119.out) (Kd.R_base ho0) hb)
               have n3_ := Aside0.mk (Kd.R_elder' (qrf12 HO127.out) (Kd.R_base ho0) hb)
               have n4_ := Aside0.mk (Kd.R_elder' (qrf12 HO134.out) (Kd.R_base ho0) hb)
               have n5_ := Aside0.mk (Kd.R_elder' (qrf12 HO148.out) (Kd.R_base ho0) hb)
               have n6_ := Aside0.mk (Kd.R_lower (Kd.R_new' (Kd.R_new' (Kd.R_new' (Kd.R_new' (Kd.R_new' (Kd.R_new' ho0 (Kd.R_lt (qrf12 HO109.out))) (Kd.R_lt (qrf12 HO113.out))) (Kd.R_lt (qrf12 HO119.out))) (Kd.R_lt (qrf12 HO127.out))) (Kd.R_lt (qrf12 HO134.out))) (Kd.R_lt (qrf12 HO148.out))) (below_size (qw6f12 HB.out GE101.out GE102.out GE116.out GE121.out GE130.out GE155.out)))
               have n7_ := Aside0.mk (blk_below (g := gb101) (o := .cells #[.int .i64 a0_0, .int .i64 a0_1, .int .i64 a0_2] 44 (0, 0)) (qbf12 BK101.out) hb)
               have n8_ := Aside0.mk (blk_below (g := gb102) (o := .cells #[.slice A1_0 l1_0.length c1_0, .int .i64 a1_1] 27 (0, 0)) (qbf12 BK102.out) hb)
               have n9_ := Aside0.mk (blk_below (g := gb116) (o := .cells #[.slice Ao51 t111.length co51, .int .i64 t114] 30 (0, 0)) (qbf12 BK116.out) hb)
               have n10_ := Aside0.mk (blk_below (g := gb121) (o := .cells #[.slice Ao58 t117.length co58, .int .i64 t120] 30 (0, 0)) (qbf12 BK121.out) hb)
               have n11_ := Aside0.mk (blk_below (g := gb130) (o := .cells #[.slice Ao69 t125.length co69, .int .i64 t128] 30 (0, 0)) (qbf12 BK130.out) hb)
               have n12_ := Aside0.mk (blk_below (g := gb155) (o := .cells #[.slice none 0 0, .int .i64 0] 30 (0, 0)) (qbf12 BK155.out) hb)
               have n13_ := Aside0.mk (below_step (qw6f12 HB.out GE101.out GE102.out GE116.out GE121.out GE130.out GE155.out) hb)
               clear HO109
               clear HO113
               clear HO119
               clear HO127
               clear HO134
               clear HO148
               clear BK101
               clear BK102
               clear BK116
               clear BK121
               clear BK130
               clear BK155
               clear HB
               have HO109 := n0_
               have HO113 := n1_
               have HO119 := n2_
               have HO127 := n3_
               have HO134 := n4_
               have HO148 := n5_
               have HO152 := n6_
               have BK101 := n7_
               have BK102 := n8_
               have BK116 := n9_
               have BK121 := n10_
               have BK130 := n11_
               have BK155 := n12_
               have HB := n13_
               clear n0_ n1_ n2_ n3_ n4_ n5_ n6_ n7_ n8_ n9_ n10_ n11_ n12_ n13_
               (try clear hb)
               (try clear hb2)
               (try clear hk)
               (try clear hi)
               (try clear ho0)
               refine hK.out _ _ ⟨(blk_cell BK101.out 0).trans rfl, (blk_cell BK101.out 1).trans rfl, (blk_cell BK101.out 2).trans rfl, (blk_cell BK102.out 0).trans rfl, (blk_cell BK102.out 1).trans rfl⟩ (fun hHeld => ?_)
               clear hK K
               refine norm_ (a' := ?_) ?_ ?_
               rotate_left
               ·
                show Act.put _ (some 89) _ = _
                exact qsf12
               refine pure_ (i := 6) (N := some 83) (v := ?_) (a' := ?_) (rlf12 [7, 2, 1, 2]) rfl rfl (any_of HT_.out (by kernel_rfl)) (fun _ _ _ h => h) (Or.inl ⟨by rfl, ?_⟩) ?_ ?_
               rotate_left
               ·
                intro w'
                go_simp
                with_reducible rfl
               rotate_left
               ·
                exact qsf12
               refine pure_ (i := 7) (N := some 90) (v := ?_) (a' := ?_) (rlf12 [8, 1, 1, 2]) rfl rfl (any_of HT_.out (by kernel_rfl)) (fun _ _ _ h => h) (Or.inl ⟨by rfl, ?_⟩) ?_ ?_
               rotate_left
               ·
                intro w'
                go_simp
                with_reducible rfl
               rotate_left
               ·
                exact qsf12
               refine pure_ (i := 8) (N := some 91) (v := ?_) (a' := ?_) (rlf12 [10, 2]) rfl rfl (any_of HT_.out (by kernel_rfl)) (fun _ _ _ h => h) (Or.inl ⟨by rfl, ?_⟩) ?_ ?_
               rotate_left
               ·
                intro w'
                go_simp
                with_reducible rfl
               rotate_left
               ·
                exact qsf12
               exact norm_ (by simp only [putAll, Act.put, List.setIfInBounds_toArray, List.set_cons_zero, List.set_cons_succ]) (hCont (.slice Ao97 t146.length co97, v151, gb155) _ ⟨hHeld, (by (with_reducible repeat (first | apply Kd.R_alloc | apply Kd.R_drewN | apply Kd.R_drew)); exact Kd.R_mono HO109.out (fun _ hk => ⟨hk.1.1.1, ⟨hk.1.1.2.1, ⟨hk.1.1.2.2.1, ⟨hk.1.1.2.2.2, ⟨hk.1.2, hk.2⟩⟩⟩⟩⟩)), (by (with_reducible repeat (first | apply Kd.R_alloc | apply Kd.R_drewN | apply Kd.R_drew)); exact Kd.R_mono HO113.out (fun _ hk => ⟨hk.1.1.1, ⟨hk.1.1.2.1, ⟨hk.1.1.2.2.1, ⟨hk.1.1.2.2.2, ⟨hk.1.2, hk.2⟩⟩⟩⟩⟩)), (by (with_reducible repeat (first | apply Kd.R_alloc | apply Kd.R_drewN | apply Kd.R_drew)); exact Kd.R_mono HO119.out (fun _ hk => ⟨hk.1.1.1, ⟨hk.1.1.2.1, ⟨hk.1.1.2.2.1, ⟨hk.1.1.2.2.2, ⟨hk.1.2, hk.2⟩⟩⟩⟩⟩)), (by (with_reducible repeat (first | apply Kd.R_alloc | apply Kd.R_drewN | apply Kd.R_drew)); exact Kd.R_mono HO127.out (fun _ hk => ⟨hk.1.1.1, ⟨hk.1.1.2.1, ⟨hk.1.1.2.2.1, ⟨hk.1.1.2.2.2, ⟨hk.1.2, hk.2⟩⟩⟩⟩⟩)), (by (with_reducible repeat (first | apply Kd.R_alloc | apply Kd.R_drewN | apply Kd.R_drew)); exact Kd.R_mono HO134.out (fun _ hk => ⟨hk.1.1.1, ⟨hk.1.1.2.1, ⟨hk.1.1.2.2.1, ⟨hk.1.1.2.2.2, ⟨hk.1.2, hk.2⟩⟩⟩⟩⟩)), (by (with_reducible repeat (first | apply Kd.R_alloc | apply Kd.R_drewN | apply Kd.R_drew)); exact Kd.R_mono HO148.out (fun _ hk => ⟨hk.1.1.1.1.1.2, ⟨hk.1.1.1.1.2, ⟨hk.1.1.1.2, ⟨hk.1.1.2, ⟨hk.1.2, hk.2⟩⟩⟩⟩⟩)), (by (with_reducible repeat (first | apply Kd.R_alloc | apply Kd.R_drewN | apply Kd.R_drew)); exact Kd.R_mono HO152.out (fun _ hk => ⟨hk.1.1.1.1.1.2, ⟨hk.1.1.1.1.2, ⟨hk.1.1.1.2, ⟨hk.1.1.2, ⟨hk.1.2, hk.2⟩⟩⟩⟩⟩)), (qbf12 BK101.out), (qbf12 BK102.out), (qbf12 BK116.out), (qbf12 BK121.out), (qbf12 BK130.out), (qbf12 BK155.out), GW155.out, GE155.out, NB101_155.out, NB155_101.out, NB102_155.out, NB155_102.out, NB116_155.out, NB155_116.out, NB121_155.out, NB155_121.out, NB130_155.out, NB155_130.out, (qw6f12 HB.out GE101.out GE102.out GE116.out GE121.out GE130.out GE155.out)⟩)
             rintro ⟨v147, v151, gb155⟩ w99 ⟨hS_, h0_, h1_, h2_, h3_, h4_, h5_, h6_, h7_, h8_, h9_, h10_, h11_, h12_, h13_, h14_, h15_, h16_, h17_, h18_, h19_, h20_, h21_, h22_, h23_, h24_, h25_⟩
             have n0_ : Aside0 (Kd.R (Kd.int .i64) 3 w99 w.heap.size (fun k_ => some k_ ≠ (.slice Ao51 t111.length co51 : Value).ownBlock ∧ some k_ ≠ (.slice Ao58 t117.length co58 : Value).ownBlock ∧ some k_ ≠ (.slice Ao69 t125.length co69 : Value).ownBlock ∧ some k_ ≠ (.slice Ao82 t132.length co82 : Value).ownBlock ∧ some k_ ≠ (v147 : Value).ownBlock ∧ some k_ ≠ (v151 : Value).ownBlock) v108 t107) := ⟨h0_⟩
             have n1_ : Aside0 (Kd.R (Kd.int .i64) 3 w99 w.heap.size (fun k_ => some k_ ≠ (v108 : Value).ownBlock ∧ some k_ ≠ (.slice Ao58 t117.length co58 : Value).ownBlock ∧ some k_ ≠ (.slice Ao69 t125.length co69 : Value).ownBlock ∧ some k_ ≠ (.slice Ao82 t132.length co82 : Value).ownBlock ∧ some k_ ≠ (v147 : Value).ownBlock ∧ some k_ ≠ (v151 : Value).ownBlock) (.slice Ao51 t111.length co51) t111) := ⟨h1_⟩
             have n2_ : Aside0 (Kd.R (Kd.int .i64) 3 w99 w.heap.size (fun k_ => some k_ ≠ (v108 : Value).ownBlock ∧ some k_ ≠ (.slice Ao51 t111.length co51 : Value).ownBlock ∧ some k_ ≠ (.slice Ao69 t125.length co69 : Value).ownBlock ∧ some k_ ≠ (.slice Ao82 t132.length co82 : Value).ownBlock ∧ some k_ ≠ (v147 : Value).ownBlock ∧ some k_ ≠ (v151 : Value).ownBlock) (.slice Ao58 t117.length co58) t138) := ⟨h2_⟩
             have n3_ : Aside0 (Kd.R (Kd.int .i64) 3 w99 w.heap.size (fun k_ => some k_ ≠ (v108 : Value).ownBlock ∧ some k_ ≠ (.slice Ao51 t111.length co51 : Value).ownBlock ∧ some k_ ≠ (.slice Ao58 t117.length co58 : Value).ownBlock ∧ some k_ ≠ (.slice Ao82 t132.length co82 : Value).ownBlock ∧ some k_ ≠ (v147 : Value).ownBlock ∧ some k_ ≠ (v151 : Value).ownBlock) (.slice Ao69 t125.length co69) t141) := ⟨h3_⟩
             have n4_ : Aside0 (Kd.R (Kd.int .i64) 3 w99 w.heap.size (fun k_ => some k_ ≠ (v108 : Value).ownBlock ∧ some k_ ≠ (.slice Ao51 t111.length co51 : Value).ownBlock ∧ some k_ ≠ (.slice Ao58 t117.length co58 : Value).ownBlock ∧ some k_ ≠ (.slice Ao69 t125.length co69 : Value).ownBlock ∧ some k_ ≠ (v147 : Value).ownBlock ∧ some k_ ≠ (v151 : Value).ownBlock) (.slice Ao82 t132.length co82) t132) := ⟨h4_⟩
             have n5_ : Aside0 (Kd.R (Kd.int .i64) 3 w99 w.heap.size (fun k_ => some k_ ≠ (v108 : Value).ownBlock ∧ some k_ ≠ (.slice Ao51 t111.length co51 : Value).ownBlock ∧ some k_ ≠ (.slice Ao58 t117.length co58 : Value).ownBlock ∧ some k_ ≠ (.slice Ao69 t125.length co69 : Value).ownBlock ∧ some k_ ≠ (.slice Ao82 t132.length co82 : Value).ownBlock ∧ some k_ ≠ (v151 : Value).ownBlock) v147 t146) := ⟨h5_⟩
             have n6_ : Aside0 (Kd.R (Kd.int .i64) 3 w99 w.heap.size (fun k_ => some k_ ≠ (v108 : Value).ownBlock ∧ some k_ ≠ (.slice Ao51 t111.length co51 : Value).ownBlock ∧ some k_ ≠ (.slice Ao58 t117.length co58 : Value).ownBlock ∧ some k_ ≠ (.slice Ao69 t125.length co69 : Value).ownBlock ∧ some k_ ≠ (.slice Ao82 t132.length co82 : Value).ownBlock ∧ some k_ ≠ (v147 : Value).ownBlock) v151 t150) := ⟨h6_⟩
             have n7_ : Aside0 (w99.heap[gb101]? = some (.cells #[.int .i64 a0_0, .int .i64 a0_1, .int .i64 a0_2] 44 (0, 0))) := ⟨h7_⟩
             have n8_ : Aside0 (w99.heap[gb102]? = some (.cells #[.slice A1_0 l1_0.length c1_0, .int .i64 a1_1] 27 (0, 0))) := ⟨h8_⟩
             have n9_ : Aside0 (w99.heap[gb116]? = some (.cells #[.slice Ao51 t111.length co51, .int .i64 t114] 30 (0, 0))) := ⟨h9_⟩
             have n10_ : Aside0 (w99.heap[gb121]? = some (.cells #[.slice Ao58 t117.length co58, .int .i64 t120] 30 (0, 0))) := ⟨h10_⟩
             have n11_ : Aside0 (w99.heap[gb130]? = some (.cells #[.slice Ao69 t125.length co69, .int .i64 t128] 30 (0, 0))) := ⟨h11_⟩
             have n12_ : Aside0 (w99.heap[gb155]? = some (.cells #[.slice none 0 0, .int .i64 0] 30 (0, 0))) := ⟨h12_⟩
             have n13_ : Aside0 (w.heap.size ≤ gb155) := ⟨h13_⟩
             have n14_ : Aside0 (w.heap.size ≤ gb155) := ⟨h14_⟩
             have n15_ : Aside0 (gb101 ≠ gb155) := ⟨h15_⟩
             have n16_ : Aside0 (gb155 ≠ gb101) := ⟨h16_⟩
             have n17_ : Aside0 (gb102 ≠ gb155) := ⟨h17_⟩
             have n18_ : Aside0 (gb155 ≠ gb102) := ⟨h18_⟩
             have n19_ : Aside0 (gb116 ≠ gb155) := ⟨h19_⟩
             have n20_ : Aside0 (gb155 ≠ gb116) := ⟨h20_⟩
             have n21_ : Aside0 (gb121 ≠ gb155) := ⟨h21_⟩
             have n22_ : Aside0 (gb155 ≠ gb121) := ⟨h22_⟩
             have n23_ : Aside0 (gb130 ≠ gb155) := ⟨h23_⟩
             have n24_ : Aside0 (gb155 ≠ gb130) := ⟨h24_⟩
             have n25_ : Aside0 (Below w.heap.size w w99) := ⟨h25_⟩
             clear HO109
             clear HO113
             clear HO119
             clear HO127
             clear HO134
             clear BK101
             clear BK102
             clear BK116
             clear BK121
             clear BK130
             clear HB
             clear h0_ h1_ h2_ h3_ h4_ h5_ h6_ h7_ h8_ h9_ h10_ h11_ h12_ h13_ h14_ h15_ h16_ h17_ h18_ h19_ h20_ h21_ h22_ h23_ h24_ h25_
             have HO109 := n0_
             have HO113 := n1_
             have HO119 := n2_
             have HO127 := n3_
             have HO134 := n4_
             have HO148 := n5_
             have HO152 := n6_
             have BK101 := n7_
             have BK102 := n8_
             have BK116 := n9_
             have BK121 := n10_
             have BK130 := n11_
             have BK155 := n12_
             have GW155 := n13_
             have GE155 := n14_
             have NB101_155 := n15_
             have NB155_101 := n16_
             have NB102_155 := n17_
             have NB155_102 := n18_
             have NB116_155 := n19_
             have NB155_116 := n20_
             have NB121_155 := n21_
             have NB155_121 := n22_
             have NB130_155 := n23_
             have NB155_130 := n24_
             have HB := n25_
             clear n0_ n1_ n2_ n3_ n4_ n5_ n6_ n7_ n8_ n9_ n10_ n11_ n12_ n13_ n14_ n15_ n16_ n17_ n18_ n19_ n20_ n21_ n22_ n23_ n24_ n25_
             have hHeld : w99.cell? ⟨gb101, 0, none⟩ = some (.int .i64 a0_0) ∧ w99.cell? ⟨gb101, 1, none⟩ = some (.int .i64 a0_1) ∧ w99.cell? ⟨gb101, 2, none⟩ = some (.int .i64 a0_2) ∧ w99.cell? ⟨gb102, 0, none⟩ = some (.slice A1_0 l1_0.length c1_0) ∧ w99.cell? ⟨gb102, 1, none⟩ = some (.int .i64 a1_1) := hS_
             obtain ⟨Ao100, co100, eo100⟩ := Kd.R_slice HO152.out
             (first | subst eo100 | (injection eo100 with f1_ f2_ f3_; have f4_ := f1_.symm; have f5_ := f3_.symm; clear f1_ f2_ f3_; subst f4_; subst f5_))
             refine norm_ (a' := ?_) ?_ ?_
             rotate_left
             ·
              simp only [putAll, Act.put, List.setIfInBounds_toArray, List.set_cons_zero, List.set_cons_succ]
              rfl
             refine one_ (i := 10) (N := none) (rlf12 [11, 1]) rfl rfl (one_of HT_.out (by kernel_rfl)) (by decide) (fun K hK => ?_)
             have hs101 : w99.cell? ⟨gb155, 0, none⟩ = some (.slice none 0 0) := (blk_cell BK155.out 0).trans rfl
             have hfs101 := blk_frozen BK155.out 0
             have hns101_0 := NB101_155.out
             have hns101_1 := NB102_155.out
             have hns101_2 := NB116_155.out
             have hns101_3 := NB121_155.out
             have hns101_4 := NB130_155.out
             have hms101_0 := NB155_101.out
             have hms101_1 := NB155_102.out
             have hms101_2 := NB155_116.out
             have hms101_3 := NB155_121.out
             have hms101_4 := NB155_130.out
             have hs102 : w99.cell? ⟨gb155, 1, none⟩ = some (.int .i64 0) := (blk_cell BK155.out 1).trans rfl
             have hfs102 := blk_frozen BK155.out 1
             have hns102_0 := NB101_155.out
             have hns102_1 := NB102_155.out
             have hns102_2 := NB116_155.out
             have hns102_3 := NB121_155.out
             have hns102_4 := NB130_155.out
             have hms102_0 := NB155_101.out
             have hms102_1 := NB155_102.out
             have hms102_2 := NB155_116.out
             have hms102_3 := NB155_121.out
             have hms102_4 := NB155_130.out
             refine skip_ (w1 := ?_) (by rfl) rfl ?_ ?_
             rotate_left
             ·
              go_simp
              rfl
             refine hK.out _ _ ⟨((cell_far (p := ⟨gb155, _, none⟩) NB101_155.out _).trans (((cell_far (p := ⟨gb155, _, none⟩) NB101_155.out _).trans (hHeld.1)))), ((cell_far (p := ⟨gb155, _, none⟩) NB101_155.out _).trans (((cell_far (p := ⟨gb155, _, none⟩) NB101_155.out _).trans (hHeld.2.1)))), ((cell_far (p := ⟨gb155, _, none⟩) NB101_155.out _).trans (((cell_far (p := ⟨gb155, _, none⟩) NB101_155.out _).trans (hHeld.2.2.1)))), ((cell_far (p := ⟨gb155, _, none⟩) NB102_155.out _).trans (((cell_far (p := ⟨gb155, _, none⟩) NB102_155.out _).trans (hHeld.2.2.2.1)))), ((cell_far (p := ⟨gb155, _, none⟩) NB102_155.out _).trans (((cell_far (p := ⟨gb155, _, none⟩) NB102_155.out _).trans (hHeld.2.2.2.2))))⟩ (fun hHeld => ?_)
             clear hK K
             refine pure_ (i := 11) (N := some 17) (v := ?_) (a' := ?_) (rlf12 [12]) rfl rfl (any_of HT_.out (by kernel_rfl)) (fun _ _ _ h => h) (Or.inl ⟨by rfl, ?_⟩) ?_ ?_
             rotate_left
             ·
              intro w'
              go_simp
              with_reducible rfl
             rotate_left
             ·
              exact qsf12
             refine done_ (done_of HT_.out (by kernel_rfl)) ?_
             have hnb103 := NB155_101.out
             have hnc103 := NB101_155.out
             have hnb104 := NB155_102.out
             have hnc104 := NB102_155.out
             have hnb105 := NB155_116.out
             have hnc105 := NB116_155.out
             have hnb106 := NB155_121.out
             have hnc106 := NB121_155.out
             have hnb107 := NB155_130.out
             have hnc107 := NB130_155.out
             have hcz108_0 : w99.cell? ⟨gb155, 0, none⟩ = some (.slice none 0 0) := (blk_cell BK155.out 0).trans rfl
             have hcz108_1 : w99.cell? ⟨gb155, 1, none⟩ = some (.int .i64 0) := (blk_cell BK155.out 1).trans rfl
             have hfz108_0 := blk_frozen BK155.out 0
             have hfz108_1 := blk_frozen BK155.out 1
             have hcz109_0 : w99.cell? ⟨gb116, 0, none⟩ = some (.slice Ao51 t111.length co51) := (blk_cell BK116.out 0).trans rfl
             have hcz109_1 : w99.cell? ⟨gb116, 1, none⟩ = some (.int .i64 t114) := (blk_cell BK116.out 1).trans rfl
             have hfz109_0 := blk_frozen BK116.out 0
             have hfz109_1 := blk_frozen BK116.out 1
             try go_wp2_with (first | ((with_reducible refine gate_callee (f := 23) rfl ?_); refine goesL_ (some 94) rfl rfl Try.func23 (by kernel_rfl) rfl #[.agg #[.slice Ao100 t150.length co100, .int .i64 t153], .agg #[.slice Ao51 t111.length co51, .int .i64 t114]] rfl qff12 ?_; (with_reducible refine (laws_eqLock.calls k _ _ t150 t153 _ _ t111 t114 true _ ?side1 ?side2 ?side3 ?side4 A33.out).mono ?_); (case side1 => refine (Kd.R_reads' (e := 3) (base := w.heap.size) (ok := fun k_ => (some k_ ≠ (v108 : Value).ownBlock ∧ (some k_ ≠ (.slice Ao51 t111.length co51 : Value).ownBlock ∧ (some k_ ≠ (.slice Ao58 t117.length co58 : Value).ownBlock ∧ (some k_ ≠ (.slice Ao69 t125.length co69 : Value).ownBlock ∧ (some k_ ≠ (.slice Ao82 t132.length co82 : Value).ownBlock ∧ some k_ ≠ (v147 : Value).ownBlock)))))) (n := t150.length) (c := co100) ?_).2.2; exact (by (with_reducible repeat (first | apply Kd.R_alloc | apply Kd.R_drewN | apply Kd.R_drew)); exact (Kd.R_mono (Kd.R_far (p := ⟨gb155, 1, none⟩) (Kd.R_far (p := ⟨gb155, 0, none⟩) (Kd.R_types HO152.out BK155.out (by decide)) (fun _ hk => hk.2) (.slice Ao100 t150.length co100)) (fun _ hk => hk.2) (.int .i64 t153)) (fun _ h_ => h_.1)))); (case side2 => exact (Kd.R_reads' HO152.out).2.1); (case side3 => refine (Kd.R_reads' (e := 3) (base := w.heap.size) (ok := fun k_ => (some k_ ≠ (v108 : Value).ownBlock ∧ (some k_ ≠ (.slice Ao58 t117.length co58 : Value).ownBlock ∧ (some k_ ≠ (.slice Ao69 t125.length co69 : Value).ownBlock ∧ (some k_ ≠ (.slice Ao82 t132.length co82 : Value).ownBlock ∧ (some k_ ≠ (v147 : Value).ownBlock ∧ some k_ ≠ (.slice Ao100 t150.length co100 : Value).ownBlock)))))) (n := t111.length) (c := co51) ?_).2.2; exact (by (with_reducible repeat (first | apply Kd.R_alloc | apply Kd.R_drewN | apply Kd.R_drew)); exact (Kd.R_mono (Kd.R_far (p := ⟨gb155, 1, none⟩) (Kd.R_far (p := ⟨gb155, 0, none⟩) (Kd.R_types HO113.out BK155.out (by decide)) (fun _ hk => hk.2) (.slice Ao100 t150.length co100)) (fun _ hk => hk.2) (.int .i64 t153)) (fun _ h_ => h_.1)))); (case side4 => exact (Kd.R_reads' HO113.out).2.1); rintro e w110 ⟨rfl, hb⟩; refine ⟨_, rfl, ?_⟩; have n0_ := Aside0.mk (Kd.R_below (by (with_reducible repeat (first | apply Kd.R_alloc | apply Kd.R_drewN | apply Kd.R_drew)); exact (Kd.R_mono (Kd.R_far (p := ⟨gb155, 1, none⟩) (Kd.R_far (p := ⟨gb155, 0, none⟩) (Kd.R_types HO109.out BK155.out (by decide)) (fun _ hk => hk.2) (.slice Ao100 t150.length co100)) (fun _ hk => hk.2) (.int .i64 t153)) (fun _ h_ => h_.1))) hb); have n1_ := Aside0.mk (Kd.R_below (by (with_reducible repeat (first | apply Kd.R_alloc | apply Kd.R_drewN | apply Kd.R_drew)); exact (Kd.R_mono (Kd.R_far (p := ⟨gb155, 1, none⟩) (Kd.R_far (p := ⟨gb155, 0, none⟩) (Kd.R_types HO113.out BK155.out (by decide)) (fun _ hk => hk.2) (.slice Ao100 t150.length co100)) (fun _ hk => hk.2) (.int .i64 t153)) (fun _ h_ => h_.1))) hb); have n2_ := Aside0.mk (Kd.R_below (by (with_reducible repeat (first | apply Kd.R_alloc | apply Kd.R_drewN | apply Kd.R_drew)); exact (Kd.R_mono (Kd.R_far (p := ⟨gb155, 1, none⟩) (Kd.R_far (p := ⟨gb155, 0, none⟩) (Kd.R_types HO119.out BK155.out (by decide)) (fun _ hk => hk.2) (.slice Ao100 t150.length co100)) (fun _ hk => hk.2) (.int .i64 t153)) (fun _ h_ => h_.1))) hb); have n3_ := Aside0.mk (Kd.R_below (by (with_reducible repeat (first | apply Kd.R_alloc | apply Kd.R_drewN | apply Kd.R_drew)); exact (Kd.R_mono (Kd.R_far (p := ⟨gb155, 1, none⟩) (Kd.R_far (p := ⟨gb155, 0, none⟩) (Kd.R_types HO127.out BK155.out (by decide)) (fun _ hk => hk.2) (.slice Ao100 t150.length co100)) (fun _ hk => hk.2) (.int .i64 t153)) (fun _ h_ => h_.1))) hb); have n4_ := Aside0.mk (Kd.R_below (by (with_reducible repeat (first | apply Kd.R_alloc | apply Kd.R_drewN | apply Kd.R_drew)); exact (Kd.R_mono (Kd.R_far (p := ⟨gb155, 1, none⟩) (Kd.R_far (p := ⟨gb155, 0, none⟩) (Kd.R_types HO134.out BK155.out (by decide)) (fun _ hk => hk.2) (.slice Ao100 t150.length co100)) (fun _ hk => hk.2) (.int .i64 t153)) (fun _ h_ => h_.1))) hb); have n5_ := Aside0.mk (Kd.R_below (by (with_reducible repeat (first | apply Kd.R_alloc | apply Kd.R_drewN | apply Kd.R_drew)); exact (Kd.R_mono (Kd.R_far (p := ⟨gb155, 1, none⟩) (Kd.R_far (p := ⟨gb155, 0, none⟩) (Kd.R_types HO148.out BK155.out (by decide)) (fun _ hk => hk.2) (.slice Ao100 t150.length co100)) (fun _ hk => hk.2) (.int .i64 t153)) (fun _ h_ => h_.1))) hb); have n6_ := Aside0.mk (Kd.R_below (by (with_reducible repeat (first | apply Kd.R_alloc | apply Kd.R_drewN | apply Kd.R_drew)); exact (Kd.R_mono (Kd.R_far (p := ⟨gb155, 1, none⟩) (Kd.R_far (p := ⟨gb155, 0, none⟩) (Kd.R_types HO152.out BK155.out (by decide)) (fun _ hk => hk.2) (.slice Ao100 t150.length co100)) (fun _ hk => hk.2) (.int .i64 t153)) (fun _ h_ => h_.1))) hb); have n7_ := Aside0.mk (blk_below (g := gb101) (o := .cells #[.int .i64 a0_0, .int .i64 a0_1, .int .i64 a0_2] 44 (0, 0)) (by (with_reducible repeat (first | refine blk_drewN ?_ _ | refine blk_drew ?_ | refine blk_alloc ?_ _)); refine blk_far ?_ NB101_155.out _; (with_reducible repeat (first | refine blk_drewN ?_ _ | refine blk_drew ?_ | refine blk_alloc ?_ _)); refine blk_far ?_ NB101_155.out _; (with_reducible repeat (first | refine blk_drewN ?_ _ | refine blk_drew ?_ | refine blk_alloc ?_ _)); exact BK101.out) hb); have n8_ := Aside0.mk (blk_below (g := gb102) (o := .cells #[.slice A1_0 l1_0.length c1_0, .int .i64 a1_1] 27 (0, 0)) (by (with_reducible repeat (first | refine blk_drewN ?_ _ | refine blk_drew ?_ | refine blk_alloc ?_ _)); refine blk_far ?_ NB102_155.out _; (with_reducible repeat (first | refine blk_drewN ?_ _ | refine blk_drew ?_ | refine blk_alloc ?_ _)); refine blk_far ?_ NB102_155.out _; (with_reducible repeat (first | refine blk_drewN ?_ _ | refine blk_drew ?_ | refine blk_alloc ?_ _)); exact BK102.out) hb); have n9_ := Aside0.mk (blk_below (g := gb116) (o := .cells #[.slice Ao51 t111.length co51, .int .i64 t114] 30 (0, 0)) (by (with_reducible repeat (first | refine blk_drewN ?_ _ | refine blk_drew ?_ | refine blk_alloc ?_ _)); refine blk_far ?_ NB116_155.out _; (with_reducible repeat (first | refine blk_drewN ?_ _ | refine blk_drew ?_ | refine blk_alloc ?_ _)); refine blk_far ?_ NB116_155.out _; (with_reducible repeat (first | refine blk_drewN ?_ _ | refine blk_drew ?_ | refine blk_alloc ?_ _)); exact BK116.out) hb); have n10_ := Aside0.mk (blk_below (g := gb121) (o := .cells #[.slice Ao58 t117.length co58, .int .i64 t120] 30 (0, 0)) (by (with_reducible repeat (first | refine blk_drewN ?_ _ | refine blk_drew ?_ | refine blk_alloc ?_ _)); refine blk_far ?_ NB121_155.out _; (with_reducible repeat (first | refine blk_drewN ?_ _ | refine blk_drew ?_ | refine blk_alloc ?_ _)); refine blk_far ?_ NB121_155.out _; (with_reducible repeat (first | refine blk_drewN ?_ _ | refine blk_drew ?_ | refine blk_alloc ?_ _)); exact BK121.out) hb); have n11_ := Aside0.mk (blk_below (g := gb130) (o := .cells #[.slice Ao69 t125.length co69, .int .i64 t128] 30 (0, 0)) (by (with_reducible repeat (first | refine blk_drewN ?_ _ | refine blk_drew ?_ | refine blk_alloc ?_ _)); refine blk_far ?_ NB130_155.out _; (with_reducible repeat (first | refine blk_drewN ?_ _ | refine blk_drew ?_ | refine blk_alloc ?_ _)); refine blk_far ?_ NB130_155.out _; (with_reducible repeat (first | refine blk_drewN ?_ _ | refine blk_drew ?_ | refine blk_alloc ?_ _)); exact BK130.out) hb); have n12_ := Aside0.mk (blk_below (g := gb155) (o := .cells #[.slice Ao100 t150.length co100, .int .i64 t153] 30 (0, 0)) (by (with_reducible repeat (first | refine blk_drewN ?_ _ | refine blk_drew ?_ | refine blk_alloc ?_ _)); refine blk_put (cs := #[.slice Ao100 t150.length co100, .int .i64 0]) ?_ 1 _ rfl; (with_reducible repeat (first | refine blk_drewN ?_ _ | refine blk_drew ?_ | refine blk_alloc ?_ _)); refine blk_put (cs := #[.slice none 0 0, .int .i64 0]) ?_ 0 _ rfl; (with_reducible repeat (first | refine blk_drewN ?_ _ | refine blk_drew ?_ | refine blk_alloc ?_ _)); exact BK155.out) hb); have n13_ := Aside0.mk (below_step (qw6f12 HB.out GE101.out GE102.out GE116.out GE121.out GE130.out GE155.out) hb); clear HO109; clear HO113; clear HO119; clear HO127; clear HO134; clear HO148; clear HO152; clear BK101; clear BK102; clear BK116; clear BK121; clear BK130; clear BK155; clear HB; have HO109 := n0_; have HO113 := n1_; have HO119 := n2_; have HO127 := n3_; have HO134 := n4_; have HO148 := n5_; have HO152 := n6_; have BK101 := n7_; have BK102 := n8_; have BK116 := n9_; have BK121 := n10_; have BK130 := n11_; have BK155 := n12_; have HB := n13_; clear n0_ n1_ n2_ n3_ n4_ n5_ n6_ n7_ n8_ n9_ n10_ n11_ n12_ n13_; (try clear hb); (try clear hb2); (try clear hk); (try clear hi); have hcz111_0 : w110.cell? ⟨gb130, 0, none⟩ = some (.slice Ao69 t125.length co69) := (blk_cell BK130.out 0).trans rfl; have hcz111_1 : w110.cell? ⟨gb130, 1, none⟩ = some (.int .i64 t128) := (blk_cell BK130.out 1).trans rfl; have hfz111_0 := blk_frozen BK130.out 0; have hfz111_1 := blk_frozen BK130.out 1) | ((with_reducible refine gate_callee (f := 43) rfl ?_); refine goesL_ (some 103) rfl rfl Try.func43 (by kernel_rfl) rfl #[.agg #[.slice Ao69 t141.length co69, .int .i64 t128], .int .i64 1] rfl (by (try simp only [List.map_toArray, List.map_cons, List.map_nil]); first | done | (rw [show t141.length = t125.length from (Kd.R_reads' HO127.out).1.symm] <;> rfl) | rfl | (simp only [List.length_drop, List.length_take]; rfl)) ?_; (with_reducible refine (laws_heldLock.calls k _ _ t141 t128 1 t157 _ ?side1 ?side2 A36.out).mono ?_); (case side1 => repeat (first | exact (Kd.R_reads' HO127.out).2.2 | (with_reducible refine Kd.C_alloc ?_ _) | (with_reducible refine Kd.C_drewN ?_ _) | (with_reducible refine Kd.C_drew ?_))); (case side2 => rw [show t141.length = t125.length from (Kd.R_reads' HO127.out).1.symm]; exact (Kd.R_reads' HO127.out).2.1); rintro e w112 ⟨rfl, hb⟩; refine ⟨_, rfl, ?_⟩; have n0_ := Aside0.mk (Kd.R_below (qrf12 HO109.out) hb); have n1_ := Aside0.mk (Kd.R_below (qrf12 HO113.out) hb); have n2_ := Aside0.mk (Kd.R_below (qrf12 HO119.out) hb); have n3_ := Aside0.mk (Kd.R_below (qrf12 HO127.out) hb); have n4_ := Aside0.mk (Kd.R_below (qrf12 HO134.out) hb); have n5_ := Aside0.mk (Kd.R_below (qrf12 HO148.out) hb); have n6_ := Aside0.mk (Kd.R_below (qrf12 HO152.out) hb); have n7_ := Aside0.mk (below_step (qw0f12 HB.out) hb); clear HO109; clear HO113; clear HO119; clear HO127; clear HO134; clear HO148; clear HO152; clear HB; have HO109 := n0_; have HO113 := n1_; have HO119 := n2_; have HO127 := n3_; have HO134 := n4_; have HO148 := n5_; have HO152 := n6_; have HB := n7_; clear n0_ n1_ n2_ n3_ n4_ n5_ n6_ n7_; (try clear hb); (try clear hb2); (try clear hk); (try clear hi)))
             go_ret
             exact ⟨by first | rfl | (simp [errW_none, errW_some] <;> rfl) | (simp [*, errW_none, errW_some] <;> rfl), by repeat (first | (with_reducible first | exact HB.out | apply below_alloc | apply pw_below_drewN | apply below_drew1) | exact HB.out)⟩
            ·
             rw [if_neg c38] at H
             have c38b0 : (t157 == t140) = false := beq_eq_false_iff_ne.mpr c38
             have c38b1 : (t157 != t140) = true := bne_iff_ne.mpr c38
             exact absurd ((Option.some.inj H).trans hrt) (by simp)
         ·
          replace c34 := Bool.eq_false_iff.mpr c34
          subst c34
          have H1 : (some false) = some r := by rw [if_neg (show ¬ (false = true) by decide)] at H; exact H
          clear H
          have H := H1
          clear H1
          exact absurd ((Option.some.inj H).trans hrt) (by simp)
        ·
         rw [if_neg c29] at H
         have c29b0 : (t142 == t140) = false := beq_eq_false_iff_ne.mpr c29
         have c29b1 : (t142 != t140) = true := bne_iff_ne.mpr c29
         exact absurd ((Option.some.inj H).trans hrt) (by simp)
      ·
       replace c25 := Bool.eq_false_iff.mpr c25
       subst c25
       have H1 : (some false) = some r := by rw [if_neg (show ¬ (false = true) by decide)] at H; exact H
       clear H
       have H := H1
       clear H1
       exact absurd ((Option.some.inj H).trans hrt) (by simp)
    ·
     replace c21 := Bool.eq_false_iff.mpr c21
     subst c21
     have H1 : (some false) = some r := by rw [if_neg (show ¬ (false = true) by decide)] at H; exact H
     clear H
     have H := H1
     clear H1
     exact absurd ((Option.some.inj H).trans hrt) (by simp)
  ·
   replace c17 := Bool.eq_false_iff.mpr c17
   subst c17
   have H1 : (some false) = some r := by rw [if_neg (show ¬ (false = true) by decide)] at H; exact H
   clear H
   have H := H1
   clear H1
   exact absurd ((Option.some.inj H).trans hrt) (by simp)

/-- THE ONE PURE STATEMENT of laws_FnExactLockFail: yours. -/
def laws_FnExactLockFail.Pure : Prop := ∀ (a0_0 : Int) (a0_1 : Int) (a0_2 : Int) (l1_0 : List Int) (a1_1 : Int) (a2 : Int), (O.okI .i64) a0_0 → (O.okI .i64) a0_1 → (O.okI .i64) a0_2 → (O.okL (O.okI .i64)) l1_0 → (O.okI .i64) a1_1 → (O.okI .i64) a2 → ∃ k, laws_FnExactLockFail.f k a0_0 a0_1 a0_2 l1_0 a1_1 a2 = some true
theorem laws_FnExactLockFail.walk (P : laws_FnExactLockFail.Pure) (a0_0 : Int) (a0_1 : Int) (a0_2 : Int) (A1_0 : Option Addr) (c1_0 : Nat) (l1_0 : List Int) (a1_1 : Int) (a2 : Int) (w : World) (hr1_0 : Kd.C (Kd.int .i64) w A1_0 l1_0.length l1_0) (hc1_0 : l1_0.length ≤ c1_0) (hk0_0 : (O.okI .i64) a0_0) (hk0_1 : (O.okI .i64) a0_1) (hk0_2 : (O.okI .i64) a0_2) (hk1_0 : (O.okL (O.okI .i64)) l1_0) (hk1_1 : (O.okI .i64) a1_1) (hk2 : (O.okI .i64) a2) :
  Calls Try.prog 12 #[.agg #[.int .i64 a0_0, .int .i64 a0_1, .int .i64 a0_2], .agg #[.slice A1_0 l1_0.length c1_0, .int .i64 a1_1], .int .i64 a2] w fun e w' => e = .returned (.bool true) ∧ Below w.heap.size w w' := by
 obtain ⟨k, h⟩ := P a0_0 a0_1 a0_2 l1_0 a1_1 a2 hk0_0 hk0_1 hk0_2 hk1_0 hk1_1 hk2
 refine (laws_FnExactLockFail.calls k a0_0 a0_1 a0_2 A1_0 c1_0 l1_0 a1_1 a2 true w hr1_0 hc1_0 rfl h).mono ?_
 rintro e w' ⟨rfl, hd⟩
 exact ⟨rfl, hd⟩

end Go.Proofs.Ytfkecldlhngjhaa.XA
