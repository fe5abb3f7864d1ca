/- Printed functions that the law FnLocks comes to, with their contracts; written by xprint.py, this session's program over the kit's print. -/
import Derived.Test.YtfkecldlhngjhaaCFnLocksa
import Derived.Test.YtfkecldlhngjhaaCFnLocksb
namespace Go.Proofs.Ytfkecldlhngjhaa.XA
open Go.RowKit Go.Proofs.YtfkecldlhngjhaaW.PrintWords Go.Proofs.YtfkecldlhngjhaaW.PrintLast Go.Proofs.YtfkecldlhngjhaaW.PrintMore
attribute [local go_sem] max2_int min2_int max_two min_two max_three min_three max_four min_four   -- for this text's walks alone
set_option linter.unusedVariables false
set_option linter.unusedSimpArgs false

/-! ### spec_l21Lock: function 65 -/
theorem qbf65 {P Q : Prop} (h : P) (f : P → Q := by intro h_; (with_reducible repeat (first | refine blk_drewN ?_ _ | refine blk_drew ?_ | refine blk_alloc ?_ _)); exact h_) : Q := f h
theorem qrf65 {P Q : Prop} (h : P) (f : P → Q := by intro h_; (with_reducible repeat (first | apply Kd.R_alloc | apply Kd.R_drewN | apply Kd.R_drew)); exact h_) : Q := f h
theorem qff65 {P : Prop} (f : P := by (try simp only [List.map_toArray, List.map_cons, List.map_nil]); first | done | rfl | (simp only [List.length_drop, List.length_take]; rfl)) : P := f
theorem qsf65 {P : Prop} (f : P := by simp only [Act.put, List.setIfInBounds_toArray, List.set_cons_zero, List.set_cons_succ, i64_w, i32_w]; rfl) : P := f
def rlf65g : Bool → List Nat → List Bool
 | _, [] => []
 | b, n :: ns => List.replicate n b ++ rlf65g (!b) ns
abbrev rlf65 (ns : List Nat) : Array Bool := (rlf65g true ns).toArray
theorem q0f65 {P Q : Prop} (h : P) (f : P → Q := by intro h_; repeat (first | (with_reducible first | exact h_ | apply IsS73.alloc | apply IsS73.drewN | apply IsS73.drew | apply IsS73.set_1 | apply IsS73.set_2) | exact h_)) : Q := f h
theorem q1f65 {P Q : Prop} (h : P) (f : P → Q := by intro h_; repeat (first | (with_reducible first | exact h_ | apply KeepBut.set_ | apply keep_drewN | apply keep_drew | apply keep_alloc) | exact h_)) : Q := f h
theorem q2f65 {P Q P0 : Prop} (h : P) (h0 : P0) (f : P → P0 → Q := by intro h_ g1_; repeat (first | (with_reducible first | exact h_ | apply below_alloc | apply pw_below_drewN | apply below_drew1 | refine below_set ?_ g1_) | exact h_)) : Q := f h h0
theorem q3f65 {P Q P0 : Prop} (h : P) (h0 : P0) (f : P → P0 → Q := by intro h_ g1_; repeat (first | (with_reducible first | exact h_ | apply IsS73.alloc | apply IsS73.drewN | apply IsS73.drew | apply IsS73.set_1 | apply IsS73.set_2 | refine IsS73.far ?_ g1_ _) | exact h_)) : Q := f h h0
theorem q4f65 {P Q P0 : Prop} (h : P) (h0 : P0) (f : P → P0 → Q := by intro h_ g1_; repeat (first | (with_reducible first | exact h_ | apply KeepBut.set_ | apply keep_drewN | apply keep_drew | apply keep_alloc | refine keep_far ?_ g1_ _) | exact h_)) : Q := f h h0
theorem q5f65 {P Q P0 P1 : Prop} (h : P) (h0 : P0) (h1 : P1) (f : P → P0 → P1 → Q := by intro h_ g1_ g2_; repeat (first | (with_reducible first | exact h_ | apply below_alloc | apply pw_below_drewN | apply below_drew1 | refine below_set ?_ g1_ | refine below_set ?_ g2_) | exact h_)) : Q := f h h0 h1
theorem q6f65 {P Q P0 P1 : Prop} (h : P) (h0 : P0) (h1 : P1) (f : P → P0 → P1 → Q := by intro h_ g1_ g2_; repeat (first | (with_reducible first | exact h_ | apply IsS73.alloc | apply IsS73.drewN | apply IsS73.drew | apply IsS73.set_1 | apply IsS73.set_2 | refine IsS73.far ?_ g1_ _ | refine IsS73.far ?_ g2_ _) | exact h_)) : Q := f h h0 h1
theorem q7f65 {P Q P0 P1 : Prop} (h : P) (h0 : P0) (h1 : P1) (f : P → P0 → P1 → Q := by intro h_ g1_ g2_; repeat (first | (with_reducible first | exact h_ | apply KeepBut.set_ | apply keep_drewN | apply keep_drew | apply keep_alloc | refine keep_far ?_ g1_ _ | refine keep_far ?_ g2_ _) | exact h_)) : Q := f h h0 h1
theorem q8f65 {P Q P0 P1 P2 : Prop} (h : P) (h0 : P0) (h1 : P1) (h2 : P2) (f : P → P0 → P1 → P2 → Q := by intro h_ g1_ g2_ g3_; repeat (first | (with_reducible first | exact h_ | apply below_alloc | apply pw_below_drewN | apply below_drew1 | refine below_set ?_ g1_ | refine below_set ?_ g2_ | refine below_set ?_ g3_) | exact h_)) : Q := f h h0 h1 h2
theorem q9f65 {P Q P0 P1 P2 : Prop} (h : P) (h0 : P0) (h1 : P1) (h2 : P2) (f : P → P0 → P1 → P2 → Q := by intro h_ g1_ g2_ g3_; repeat (first | (with_reducible first | exact h_ | apply KeepBut.set_ | apply keep_drewN | apply keep_drew | apply keep_alloc | refine keep_far ?_ g1_ _ | refine keep_far ?_ g2_ _ | refine keep_far ?_ g3_ _) | exact h_)) : Q := f h h0 h1 h2
theorem q10f65 {P Q P0 P1 P2 : Prop} (h : P) (h0 : P0) (h1 : P1) (h2 : P2) (f : P → P0 → P1 → P2 → Q := by intro h_ g1_ g2_ g3_; repeat (first | (with_reducible first | exact h_ | apply IsS73.alloc | apply IsS73.drewN | apply IsS73.drew | apply IsS73.set_1 | apply IsS73.set_2 | refine IsS73.far ?_ g1_ _ | refine IsS73.far ?_ g2_ _ | refine IsS73.far ?_ g3_ _) | exact h_)) : Q := f h h0 h1 h2
theorem q11f65 {P Q P0 P1 P2 P3 : Prop} (h : P) (h0 : P0) (h1 : P1) (h2 : P2) (h3 : P3) (f : P → P0 → P1 → P2 → P3 → Q := by intro h_ g1_ g2_ g3_ g4_; repeat (first | (with_reducible first | exact h_ | apply below_alloc | apply pw_below_drewN | apply below_drew1 | refine below_set ?_ g1_ | refine below_set ?_ g2_ | refine below_set ?_ g3_ | refine below_set ?_ g4_) | exact h_)) : Q := f h h0 h1 h2 h3
theorem q12f65 {P Q P0 P1 P2 P3 : Prop} (h : P) (h0 : P0) (h1 : P1) (h2 : P2) (h3 : P3) (f : P → P0 → P1 → P2 → P3 → Q := by intro h_ g1_ g2_ g3_ g4_; repeat (first | (with_reducible first | exact h_ | apply IsS73.alloc | apply IsS73.drewN | apply IsS73.drew | apply IsS73.set_1 | apply IsS73.set_2 | refine IsS73.far ?_ g1_ _ | refine IsS73.far ?_ g2_ _ | refine IsS73.far ?_ g3_ _ | refine IsS73.far ?_ g4_ _) | exact h_)) : Q := f h h0 h1 h2 h3
theorem q13f65 {P Q P0 P1 P2 P3 : Prop} (h : P) (h0 : P0) (h1 : P1) (h2 : P2) (h3 : P3) (f : P → P0 → P1 → P2 → P3 → Q := by intro h_ g1_ g2_ g3_ g4_; repeat (first | (with_reducible first | exact h_ | apply KeepBut.set_ | apply keep_drewN | apply keep_drew | apply keep_alloc | refine keep_far ?_ g1_ _ | refine keep_far ?_ g2_ _ | refine keep_far ?_ g3_ _ | refine keep_far ?_ g4_ _) | exact h_)) : Q := f h h0 h1 h2 h3
theorem q14f65 {P Q P0 P1 P2 P3 P4 : Prop} (h : P) (h0 : P0) (h1 : P1) (h2 : P2) (h3 : P3) (h4 : P4) (f : P → P0 → P1 → P2 → P3 → P4 → Q := by intro h_ g1_ g2_ g3_ g4_ g5_; repeat (first | (with_reducible first | exact h_ | apply below_alloc | apply pw_below_drewN | apply below_drew1 | refine below_set ?_ g1_ | refine below_set ?_ g2_ | refine below_set ?_ g3_ | refine below_set ?_ g4_ | refine below_set ?_ g5_) | exact h_)) : Q := f h h0 h1 h2 h3 h4
theorem qlef65 {a b n : Nat} (hg : b = n) (h : a ≤ n) : a ≤ b := hg ▸ h
def spec_l21Lock.l0 : Nat → Int → Int → List Int → Int → Int → Int → Int → Int → List Int → Int → Option (List Int × Int × Int × Int)
 | 0, _, _, _, _, _, _, _, _, _, _ => none
 | k + 1, x6, x7, x1000, x1001, x1002, x102000, x102001, x102002, x104000, x104001 => if x7 > 0 then ((spec_l1Below.f x1000 x1001 x1002 8).bind fun bt107 => ((spec_LockFail.f k x102000 x102001 x102002 x104000 x104001 (wrap64 (x6 + bt107.1))).bind fun bt110 => (if bt110.2.2 = true then (spec_l21Lock.l0 k (wrap64 (x6 + bt107.1)) (wrap64 (x7 - 1)) x1000 bt107.2.1 bt107.2.2 x102000 x102001 x102002 bt110.1 bt110.2.1) else (spec_l21Lock.l0 k (wrap64 (x6 + bt107.1)) (wrap64 (x7 - 1)) x1000 bt107.2.1 bt107.2.2 x102000 x102001 x102002 x104000 x104001)))) else ((spec_l1Once.f x1000 x1001 x1002 10).bind fun bt116 => (if bt116.1 = true then ((spec_l1Below.f x1000 bt116.2.1 bt116.2.2 3).bind fun bt119 => (if bt119.1 = 0 then ((spec_l1Below.f x1000 bt119.2.1 bt119.2.2 9).bind fun bt122 => (if x104000.length < 17592186044416 then (some ((x104000 ++ [wrap64 (bt122.1 - 1)]), x104001, bt122.2.1, bt122.2.2)) else (none))) else (if bt119.1 = 1 then ((spec_l1PickInt.f x1000 bt119.2.1 bt119.2.2 (([(-1), 0, 101000, 101001] : List Int))).bind fun bt131 => (some (x104000, bt131.1, bt131.2.1, bt131.2.2))) else ((some (([5, 5, 5, 5] : List Int) : List Int)).bind fun y134 => (if x104000.length + y134.length < 17592186044416 then (some ((x104000 ++ y134), x104001, bt119.2.1, bt119.2.2)) else (none)))))) else (some (x104000, x104001, bt116.2.1, bt116.2.2))))
def spec_l21Lock.f (k : Nat) (s0_0 : List Int) (s0_1 : Int) (s0_2 : Int) (a1_0 : Int) (a1_1 : Int) (a1_2 : Int) : Option (List Int × Int × Int × Int) := (spec_l1Below.f s0_0 s0_1 s0_2 8).bind fun bt104 => (spec_l21Lock.l0 k 0 bt104.1 s0_0 bt104.2.1 bt104.2.2 a1_0 a1_1 a1_2 ([] : List Int) 0)
theorem spec_l21Lock.mono_l : ∀ k, (∀ y0 y1 y2 y3 y4 y5 y6 y7 y8 y9, LeO (spec_l21Lock.l0 k y0 y1 y2 y3 y4 y5 y6 y7 y8 y9) (spec_l21Lock.l0 (k + 1) y0 y1 y2 y3 y4 y5 y6 y7 y8 y9))
 | 0 => fun _ _ _ _ _ _ _ _ _ _ r h => by simp [spec_l21Lock.l0] at h
 | k + 1 => by
  have ih0 := spec_l21Lock.mono_l k
  ·
   intro y0 y1 y2 y3 y4 y5 y6 y7 y8 y9
   unfold spec_l21Lock.l0
   repeat' first
   | (with_reducible exact ih0 _ _ _ _ _ _ _ _ _ _)
   | (with_reducible exact spec_LockFail.mono _ _ _ _ _ _ _)
   | (with_reducible exact LeO.refl _)
   | (with_reducible exact LeO.none _)
   | (with_reducible refine LeO.ite ?_ ?_)
   | (with_reducible refine LeO.bind ?_ (fun _ => ?_))
   | exact ih0 _ _ _ _ _ _ _ _ _ _
   | exact spec_LockFail.mono _ _ _ _ _ _ _
   | exact LeO.none _
   | refine LeO.ite ?_ ?_
   | refine LeO.bind ?_ (fun _ => ?_)
theorem spec_l21Lock.mono : ∀ a0 a1 a2 a3 a4 a5 k, LeO (spec_l21Lock.f k a0 a1 a2 a3 a4 a5) (spec_l21Lock.f (k + 1) a0 a1 a2 a3 a4 a5) := by
 intro a0 a1 a2 a3 a4 a5 k
 have ih0 := spec_l21Lock.mono_l k
 unfold spec_l21Lock.f
 repeat' first
   | (with_reducible exact ih0 _ _ _ _ _ _ _ _ _ _)
   | (with_reducible exact spec_LockFail.mono _ _ _ _ _ _ _)
   | (with_reducible exact LeO.refl _)
   | (with_reducible exact LeO.none _)
   | (with_reducible refine LeO.ite ?_ ?_)
   | (with_reducible refine LeO.bind ?_ (fun _ => ?_))
   | exact ih0 _ _ _ _ _ _ _ _ _ _
   | exact spec_LockFail.mono _ _ _ _ _ _ _
   | exact LeO.none _
   | refine LeO.ite ?_ ?_
   | refine LeO.bind ?_ (fun _ => ?_)
def spec_l21Lock.T14 : Bool × List (List Nat × List Nat) := (true, [([], []), ([0], [0]), ([], []), ([2], [2]), ([3], [3]), ([4], [4]), ([1, 5, 3], [1, 5]), ([0, 1, 2, 3, 4, 5, 6], []), ([7, 6, 6, 0, 1, 2, 3, 4, 5, 6], [6, 7])])
def spec_l21Lock.B14 : List Nat := [0, 1, 0, 4, 12, 28, 63, 127, 255]
theorem spec_l21Lock.tab14 : rtab .any (opsOf Try.f65 14) = spec_l21Lock.T14 := by kernel_rfl
theorem spec_l21Lock.bits14 : waitsOk spec_l21Lock.T14.2 spec_l21Lock.B14 = true := by kernel_rfl
set_option maxHeartbeats 8000000 in
set_option maxRecDepth 100000 in
theorem spec_l21Lock.calls (k : Nat) (g : Nat) (s0_0 : List Int) (s0_1 : Int) (s0_2 : Int) (a1_0 : Int) (a1_1 : Int) (a1_2 : Int) (r1 : List Int) (r2 : Int) (r3 : Int) (r4 : Int) (w0 w : World) (hI : IsS73 w0 w g s0_0 s0_1 s0_2) (hB : Below w0.heap.size w0 w) (h : spec_l21Lock.f k s0_0 s0_1 s0_2 a1_0 a1_1 a1_2 = some (r1, r2, r3, r4)) :
  Calls Try.prog 65 #[.pointer (some ⟨g, 0, none⟩), .agg #[.int .i64 a1_0, .int .i64 a1_1, .int .i64 a1_2]] w fun e w' => ∃ v0_ : Value, e = .returned (.agg #[v0_, .int .i64 r2]) ∧ Kd.R (Kd.int .i64) 3 w' w.heap.size (fun _ => True) v0_ r1 ∧ IsS73 w0 w' g s0_0 r3 r4 ∧ Below w0.heap.size w0 w' ∧ KeepBut w w' g none := by
 have hu40 := Try.underlying40
 have hu30 := Try.underlying30
 have HI0 := Aside0.mk hI
 have HK := Aside0.mk (KeepBut.refl w g none)
 have HL := Aside0.mk hB.size
 clear hI
 have HW0 := Aside0.mk hB.size
 have HB := Aside0.mk hB
 clear hB
 have H : ((spec_l1Below.f s0_0 s0_1 s0_2 8).bind fun bt104 => (spec_l21Lock.l0 k 0 bt104.1 s0_0 bt104.2.1 bt104.2.2 a1_0 a1_1 a1_2 ([] : List Int) 0)) = some (r1, r2, r3, r4) := h
 clear h
 replace H := Option.bind_eq_some_iff.mp H
 obtain ⟨⟨t104, t105, t106⟩, A30, H⟩ := H
 replace H : (spec_l21Lock.l0 k 0 t104 s0_0 t105 t106 a1_0 a1_1 a1_2 ([] : List Int) 0) = some (r1, r2, r3, r4) := H
 have A3 := Aside0.mk A30
 clear A30
 have H' := Aside0.mk H
 clear H
 go_enter Try.func65, Try.ntmps65
 go_wp2_with (first | ((with_reducible refine gate_dst (N := 3) rfl ?_); refine box_event ?hg (N := 3) ?hd (cs := #[.int .i64 a1_0, .int .i64 a1_1, .int .i64 a1_2]) (t := 40) ?hr ?_; (case hd => rfl); (case hg => rfl); (case hr => first | (go_simp; done) | (go_simp; rfl)); intro gb101 hg w4 hbox hb; have n0_ := Aside0.mk (IsS73.below (q0f65 HI0.out) hb); have n1_ := Aside0.mk (KeepBut.trans (q1f65 HK.out) (KeepBut.of_below hb g none) (.inl rfl)); have n2_ := Aside0.mk (below_step (q2f65 HB.out (IsS73.ge HI0.out)) hb); have n3_ := Aside0.mk (hbox); have n4_ := Aside0.mk ((qlef65 hg (keep_size (w := w) (g := g) (row := none) (q1f65 HK.out)))); have n5_ := Aside0.mk ((Nat.le_trans HW0.out (qlef65 hg (keep_size (w := w) (g := g) (row := none) (q1f65 HK.out))) : w0.heap.size ≤ gb101)); have n6_ := Aside0.mk ((by rw [hg]; exact Nat.ne_of_lt (IsS73.lt (show IsS73 w0 _ g s0_0 s0_1 s0_2 from (q0f65 HI0.out))) : g ≠ gb101)); have n7_ := Aside0.mk ((by rw [hg]; exact Nat.ne_of_gt (IsS73.lt (show IsS73 w0 _ g s0_0 s0_1 s0_2 from (q0f65 HI0.out))) : gb101 ≠ g)); clear HI0; clear HK; clear HB; have HI0 := n0_; have HK := n1_; have HB := n2_; have BK101 := n3_; have GW101 := n4_; have GE101 := n5_; have NB0_101 := n6_; have NB101_0 := n7_; clear n0_ n1_ n2_ n3_ n4_ n5_ n6_ n7_; clear hb hbox hg) | ((with_reducible refine gate_dst (N := 4) rfl ?_); refine box_event ?hg (N := 4) ?hd (cs := #[.slice none 0 0, .int .i64 0]) (t := 30) ?hr ?_; (case hd => rfl); (case hg => rfl); (case hr => first | (go_simp; done) | (go_simp; rfl)); intro gb102 hg w5 hbox hb; have n0_ := Aside0.mk (IsS73.below (q3f65 HI0.out NB0_101.out) hb); have n1_ := Aside0.mk (blk_below (g := gb101) (qbf65 BK101.out) hb); have n2_ := Aside0.mk (KeepBut.trans (q4f65 HK.out GW101.out) (KeepBut.of_below hb g none) (.inl rfl)); have n3_ := Aside0.mk (below_step (q5f65 HB.out (IsS73.ge HI0.out) GE101.out) hb); have n4_ := Aside0.mk (hbox); have n5_ := Aside0.mk ((qlef65 hg (keep_size (w := w) (g := g) (row := none) (q4f65 HK.out GW101.out)))); have n6_ := Aside0.mk ((Nat.le_trans HW0.out (qlef65 hg (keep_size (w := w) (g := g) (row := none) (q4f65 HK.out GW101.out))) : w0.heap.size ≤ gb102)); have n7_ := Aside0.mk ((by rw [hg]; exact Nat.ne_of_lt (blk_lt (g := gb101) (qbf65 BK101.out)) : gb101 ≠ gb102)); have n8_ := Aside0.mk ((by rw [hg]; exact Nat.ne_of_gt (blk_lt (g := gb101) (qbf65 BK101.out)) : gb102 ≠ gb101)); have n9_ := Aside0.mk ((by rw [hg]; exact Nat.ne_of_lt (IsS73.lt (show IsS73 w0 _ g s0_0 s0_1 s0_2 from (q3f65 HI0.out NB0_101.out))) : g ≠ gb102)); have n10_ := Aside0.mk ((by rw [hg]; exact Nat.ne_of_gt (IsS73.lt (show IsS73 w0 _ g s0_0 s0_1 s0_2 from (q3f65 HI0.out NB0_101.out))) : gb102 ≠ g)); clear HI0; clear BK101; clear HK; clear HB; have HI0 := n0_; have BK101 := n1_; have HK := n2_; have HB := n3_; have BK102 := n4_; have GW102 := n5_; have GE102 := n6_; have NB101_102 := n7_; have NB102_101 := n8_; have NB0_102 := n9_; have NB102_0 := n10_; clear n0_ n1_ n2_ n3_ n4_ n5_ n6_ n7_ n8_ n9_ n10_; clear hb hbox hg) | ((with_reducible refine gate_dst (N := 5) rfl ?_); refine box_event ?hg (N := 5) ?hd (cs := #[.slice none 0 0, .int .i64 0]) (t := 30) ?hr ?_; (case hd => rfl); (case hg => rfl); (case hr => first | (go_simp; done) | (go_simp; rfl)); intro gb103 hg w6 hbox hb; have n0_ := Aside0.mk (IsS73.below (q6f65 HI0.out NB0_101.out NB0_102.out) hb); have n1_ := Aside0.mk (blk_below (g := gb101) (qbf65 BK101.out) hb); have n2_ := Aside0.mk (blk_below (g := gb102) (qbf65 BK102.out) hb); have n3_ := Aside0.mk (KeepBut.trans (q7f65 HK.out GW101.out GW102.out) (KeepBut.of_below hb g none) (.inl rfl)); have n4_ := Aside0.mk (below_step (q8f65 HB.out (IsS73.ge HI0.out) GE101.out GE102.out) hb); have n5_ := Aside0.mk (hbox); have n6_ := Aside0.mk ((qlef65 hg (keep_size (w := w) (g := g) (row := none) (q7f65 HK.out GW101.out GW102.out)))); have n7_ := Aside0.mk ((Nat.le_trans HW0.out (qlef65 hg (keep_size (w := w) (g := g) (row := none) (q7f65 HK.out GW101.out GW102.out))) : w0.heap.size ≤ gb103)); have n8_ := Aside0.mk ((by rw [hg]; exact Nat.ne_of_lt (blk_lt (g := gb101) (qbf65 BK101.out)) : gb101 ≠ gb103)); have n9_ := Aside0.mk ((by rw [hg]; exact Nat.ne_of_gt (blk_lt (g := gb101) (qbf65 BK101.out)) : gb103 ≠ gb101)); have n10_ := Aside0.mk ((by rw [hg]; exact Nat.ne_of_lt (blk_lt (g := gb102) (qbf65 BK102.out)) : gb102 ≠ gb103)); have n11_ := Aside0.mk ((by rw [hg]; exact Nat.ne_of_gt (blk_lt (g := gb102) (qbf65 BK102.out)) : gb103 ≠ gb102)); have n12_ := Aside0.mk ((by rw [hg]; exact Nat.ne_of_lt (IsS73.lt (show IsS73 w0 _ g s0_0 s0_1 s0_2 from (q6f65 HI0.out NB0_101.out NB0_102.out))) : g ≠ gb103)); have n13_ := Aside0.mk ((by rw [hg]; exact Nat.ne_of_gt (IsS73.lt (show IsS73 w0 _ g s0_0 s0_1 s0_2 from (q6f65 HI0.out NB0_101.out NB0_102.out))) : gb103 ≠ g)); clear HI0; clear BK101; clear BK102; clear HK; clear HB; have HI0 := n0_; have BK101 := n1_; have BK102 := n2_; have HK := n3_; have HB := n4_; have BK103 := n5_; have GW103 := n6_; have GE103 := n7_; have NB101_103 := n8_; have NB103_101 := n9_; have NB102_103 := n10_; have NB103_102 := n11_; have NB0_103 := n12_; have NB103_0 := n13_; clear n0_ n1_ n2_ n3_ n4_ n5_ n6_ n7_ n8_ n9_ n10_ n11_ n12_ n13_; clear hb hbox hg; have hnb7 := NB103_101.out; have hnc7 := NB101_103.out; have hnb8 := NB103_102.out; have hnc8 := NB102_103.out; have hnb9 := NB103_0.out; have hnc9 := NB0_103.out; have hcz10_0 : w6.cell? ⟨gb103, 0, none⟩ = some (.slice none 0 0) := (blk_cell BK103.out 0).trans rfl; have hcz10_1 : w6.cell? ⟨gb103, 1, none⟩ = some (.int .i64 0) := (blk_cell BK103.out 1).trans rfl; have hfz10_0 := blk_frozen BK103.out 0; have hfz10_1 := blk_frozen BK103.out 1) | ((with_reducible refine gate_callee (f := 67) rfl ?_); refine goesL_ (some 12) rfl rfl Try.func67 (by kernel_rfl) rfl #[.pointer (some ⟨g, 0, none⟩), .int .i64 8] rfl qff65 ?_; (with_reducible refine (spec_l1Below.calls g s0_0 s0_1 s0_2 8 t104 t105 t106 w0 _ ?side1 ?side2 A3.out).mono ?_); (case side1 => repeat (first | (with_reducible first | exact HI0.out | apply IsS73.alloc | apply IsS73.drewN | apply IsS73.drew | apply IsS73.set_1 | apply IsS73.set_2 | refine IsS73.far ?_ NB0_101.out _ | refine IsS73.far ?_ NB0_102.out _ | refine IsS73.far ?_ NB0_103.out _) | exact HI0.out)); (case side2 => repeat (first | (with_reducible first | exact HB.out | apply below_alloc | apply pw_below_drewN | apply below_drew1 | refine below_set ?_ (IsS73.ge HI0.out) | refine below_set ?_ GE101.out | refine below_set ?_ GE102.out | refine below_set ?_ GE103.out) | exact HB.out)); rintro e w11 ⟨rfl, hi, hb, hk⟩; refine ⟨_, rfl, ?_⟩; have n0_ := Aside0.mk (KeepBut.blk hk (g' := gb101) (o := .cells #[.int .i64 a1_0, .int .i64 a1_1, .int .i64 a1_2] 40 (0, 0)) (by (with_reducible repeat (first | refine blk_drewN ?_ _ | refine blk_drew ?_ | refine blk_alloc ?_ _)); refine blk_far ?_ NB101_103.out _; (with_reducible repeat (first | refine blk_drewN ?_ _ | refine blk_drew ?_ | refine blk_alloc ?_ _)); refine blk_far ?_ NB101_103.out _; (with_reducible repeat (first | refine blk_drewN ?_ _ | refine blk_drew ?_ | refine blk_alloc ?_ _)); exact BK101.out) NB101_0.out (by simp)); have n1_ := Aside0.mk (KeepBut.blk hk (g' := gb102) (o := .cells #[.slice none 0 0, .int .i64 0] 30 (0, 0)) (by (with_reducible repeat (first | refine blk_drewN ?_ _ | refine blk_drew ?_ | refine blk_alloc ?_ _)); refine blk_far ?_ NB102_103.out _; (with_reducible repeat (first | refine blk_drewN ?_ _ | refine blk_drew ?_ | refine blk_alloc ?_ _)); refine blk_far ?_ NB102_103.out _; (with_reducible repeat (first | refine blk_drewN ?_ _ | refine blk_drew ?_ | refine blk_alloc ?_ _)); exact BK102.out) NB102_0.out (by simp)); have n2_ := Aside0.mk (KeepBut.blk hk (g' := gb103) (o := .cells #[.slice none 0 0, .int .i64 0] 30 (0, 0)) (by (with_reducible repeat (first | refine blk_drewN ?_ _ | refine blk_drew ?_ | refine blk_alloc ?_ _)); refine blk_put (cs := #[.slice none 0 0, .int .i64 0]) ?_ 1 _ rfl; (with_reducible repeat (first | refine blk_drewN ?_ _ | refine blk_drew ?_ | refine blk_alloc ?_ _)); refine blk_put (cs := #[.slice none 0 0, .int .i64 0]) ?_ 0 _ rfl; (with_reducible repeat (first | refine blk_drewN ?_ _ | refine blk_drew ?_ | refine blk_alloc ?_ _)); exact BK103.out) NB103_0.out (by simp)); have n3_ := Aside0.mk (KeepBut.trans (q9f65 HK.out GW101.out GW102.out GW103.out) hk (.inl rfl)); have n4_ := Aside0.mk (hb); have n5_ := Aside0.mk (hi); clear BK101; clear BK102; clear BK103; clear HK; clear HB; clear HI0; have BK101 := n0_; have BK102 := n1_; have BK103 := n2_; have HK := n3_; have HB := n4_; have HI0 := n5_; clear n0_ n1_ n2_ n3_ n4_ n5_; (try clear hb); (try clear hb2); (try clear hk); (try clear hi)))
 go_loopg [6, 7] k (fun kq v6 v7 w' => ∃ (x6_1 : Int) (x7_1 : Int) (x1001_1 : Int) (x1002_1 : Int) (x104000_1 : List Int) (x104001_1 : Int) (u104000 : Value), v6 = .int .i64 x6_1 ∧ v7 = .int .i64 x7_1 ∧ Aside0 (spec_l21Lock.l0 kq x6_1 x7_1 s0_0 x1001_1 x1002_1 a1_0 a1_1 a1_2 x104000_1 x104001_1 = some (r1, r2, r3, r4)) ∧ Aside0 (kq ≤ k) ∧ Aside0 (Kd.R (Kd.int .i64) 3 w' w.heap.size (fun _ => True) u104000 x104000_1) ∧ Aside0 (w'.heap[gb101]? = some (.cells #[.int .i64 a1_0, .int .i64 a1_1, .int .i64 a1_2] 40 (0, 0))) ∧ Aside0 (w'.heap[gb102]? = some (.cells #[(.slice none 0 0), .int .i64 0] 30 (0, 0))) ∧ Aside0 (w'.heap[gb103]? = some (.cells #[u104000, .int .i64 x104001_1] 30 (0, 0))) ∧ Aside0 (IsS73 w0 w' g s0_0 x1001_1 x1002_1) ∧ Aside0 (KeepBut w w' g none) ∧ Aside0 (Below w0.heap.size w0 w'))
 case atStart => exact ⟨(0), (t104), (t105), (t106), (([] : List Int)), (0), (.slice none 0 0), (by first | rfl | (simp; done) | (simp [*]; done)), (by first | rfl | (simp; done) | (simp [*]; done)), H', ⟨Nat.le_refl _⟩, ⟨by first | exact Kd.R_nil _ _ _ _ _ | exact Kd.N_nil _ _ _ _ _ | exact Kd.V_nil _ _ _ _ _ | exact Kd.Q_nil _ _ _ _ _ | exact Kd.S_nil _ _ _ _ _⟩, ⟨by (with_reducible repeat (first | refine blk_drewN ?_ _ | refine blk_drew ?_ | refine blk_alloc ?_ _)); exact BK101.out⟩, ⟨by (with_reducible repeat (first | refine blk_drewN ?_ _ | refine blk_drew ?_ | refine blk_alloc ?_ _)); exact BK102.out⟩, ⟨by (with_reducible repeat (first | refine blk_drewN ?_ _ | refine blk_drew ?_ | refine blk_alloc ?_ _)); exact BK103.out⟩, ⟨(q10f65 HI0.out NB0_101.out NB0_102.out NB0_103.out)⟩, ⟨(q9f65 HK.out GW101.out GW102.out GW103.out)⟩, ⟨(q11f65 HB.out (IsS73.ge HI0.out) GE101.out GE102.out GE103.out)⟩⟩
 case round =>
  clear H'
  try clear p2
  try clear c6
  try clear c7
  try clear c8
  try clear c9
  try clear hcz10_0
  try clear hcz10_1
  try clear hfz10_0
  try clear hfz10_1
  obtain ⟨x6_1, x7_1, x1001_1, x1002_1, x104000_1, x104001_1, u104000, rfl, rfl, HA, HK1, HO_104000, BK101, BK102, BK103, HI0, HK, HB⟩ := hrel
  cases gk with
  | zero => exact absurd HA.out (by simp [spec_l21Lock.l0])
  | succ k1 =>
   have H := HA.out
   clear HA
   simp only [spec_l21Lock.l0] at H
   by_cases c12 : x7_1 > 0
   ·
    rw [if_pos c12] at H
    have c12b0 : decide (0 < x7_1) = true := decide_eq_true c12
    clear c12
    replace H := Option.bind_eq_some_iff.mp H
    obtain ⟨⟨t107, t108, t109⟩, A130, H⟩ := H
    replace H : ((spec_LockFail.f k1 a1_0 a1_1 a1_2 x104000_1 x104001_1 (wrap64 (x6_1 + t107))).bind fun bt110 => (if bt110.2.2 = true then (spec_l21Lock.l0 k1 (wrap64 (x6_1 + t107)) (wrap64 (x7_1 - 1)) s0_0 t108 t109 a1_0 a1_1 a1_2 bt110.1 bt110.2.1) else (spec_l21Lock.l0 k1 (wrap64 (x6_1 + t107)) (wrap64 (x7_1 - 1)) s0_0 t108 t109 a1_0 a1_1 a1_2 x104000_1 x104001_1))) = some (r1, r2, r3, r4) := H
    have A13 := Aside0.mk A130
    clear A130
    replace H := Option.bind_eq_some_iff.mp H
    obtain ⟨⟨t110, t113, t114⟩, A140, H⟩ := H
    replace H : (if t114 = true then (spec_l21Lock.l0 k1 (wrap64 (x6_1 + t107)) (wrap64 (x7_1 - 1)) s0_0 t108 t109 a1_0 a1_1 a1_2 t110 t113) else (spec_l21Lock.l0 k1 (wrap64 (x6_1 + t107)) (wrap64 (x7_1 - 1)) s0_0 t108 t109 a1_0 a1_1 a1_2 x104000_1 x104001_1)) = some (r1, r2, r3, r4) := H
    have A14 := Aside0.mk A140
    clear A140
    by_cases c15 : t114 = true
    ·
     subst c15
     have H1 : (spec_l21Lock.l0 k1 (wrap64 (x6_1 + t107)) (wrap64 (x7_1 - 1)) s0_0 t108 t109 a1_0 a1_1 a1_2 t110 t113) = some (r1, r2, r3, r4) := by rw [if_pos rfl] at H; exact H
     clear H
     have H := H1
     clear H1
     have H' := Aside0.mk H
     clear H
     go_wp2_with (first | ((with_reducible refine gate_callee (f := 67) rfl ?_); refine goesL_ (some 19) rfl rfl Try.func67 (by kernel_rfl) rfl #[.pointer (some ⟨g, 0, none⟩), .int .i64 8] rfl qff65 ?_; (with_reducible refine (spec_l1Below.calls g s0_0 x1001_1 x1002_1 8 t107 t108 t109 w0 _ ?side1 ?side2 A13.out).mono ?_); (case side1 => repeat (first | (with_reducible first | exact HI0.out | apply IsS73.alloc | apply IsS73.drewN | apply IsS73.drew | apply IsS73.set_1 | apply IsS73.set_2 | refine IsS73.far ?_ NB0_101.out _ | refine IsS73.far ?_ NB0_102.out _ | refine IsS73.far ?_ NB0_103.out _) | exact HI0.out)); (case side2 => repeat (first | (with_reducible first | exact HB.out | apply below_alloc | apply pw_below_drewN | apply below_drew1 | refine below_set ?_ (IsS73.ge HI0.out) | refine below_set ?_ GE101.out | refine below_set ?_ GE102.out | refine below_set ?_ GE103.out) | exact HB.out)); rintro e w16 ⟨rfl, hi, hb, hk⟩; refine ⟨_, rfl, ?_⟩; have n0_ := Aside0.mk (Kd.R_mono (Kd.R_keep (IsS73.apart (show IsS73 w0 _ g s0_0 x1001_1 x1002_1 from (q10f65 HI0.out NB0_101.out NB0_102.out NB0_103.out)) (qrf65 HO_104000.out) (by decide)) hk (fun _ h => h.2)) (fun _ h => h.1)); have n1_ := Aside0.mk (KeepBut.blk hk (g' := gb101) (o := .cells #[.int .i64 a1_0, .int .i64 a1_1, .int .i64 a1_2] 40 (0, 0)) (qbf65 BK101.out) NB101_0.out (by simp)); have n2_ := Aside0.mk (KeepBut.blk hk (g' := gb102) (o := .cells #[.slice none 0 0, .int .i64 0] 30 (0, 0)) (qbf65 BK102.out) NB102_0.out (by simp)); have n3_ := Aside0.mk (KeepBut.blk hk (g' := gb103) (o := .cells #[u104000, .int .i64 x104001_1] 30 (0, 0)) (qbf65 BK103.out) NB103_0.out (by simp)); have n4_ := Aside0.mk (KeepBut.trans (q9f65 HK.out GW101.out GW102.out GW103.out) hk (.inl rfl)); have n5_ := Aside0.mk (hb); have n6_ := Aside0.mk (hi); clear HO_104000; clear BK101; clear BK102; clear BK103; clear HK; clear HB; clear HI0; have HO_104000 := n0_; have BK101 := n1_; have BK102 := n2_; have BK103 := n3_; have HK := n4_; have HB := n5_; have HI0 := n6_; clear n0_ n1_ n2_ n3_ n4_ n5_ n6_; (try clear hb); (try clear hb2); (try clear hk); (try clear hi); have hnb17 := NB101_102.out; have hnc17 := NB102_101.out; have hnb18 := NB101_103.out; have hnc18 := NB103_101.out; have hnb19 := NB101_0.out; have hnc19 := NB0_101.out; have hcz20_0 : w16.cell? ⟨gb101, 0, none⟩ = some (.int .i64 a1_0) := (blk_cell BK101.out 0).trans rfl; have hcz20_1 : w16.cell? ⟨gb101, 1, none⟩ = some (.int .i64 a1_1) := (blk_cell BK101.out 1).trans rfl; have hcz20_2 : w16.cell? ⟨gb101, 2, none⟩ = some (.int .i64 a1_2) := (blk_cell BK101.out 2).trans rfl; have hfz20_0 := blk_frozen BK101.out 0; have hfz20_1 := blk_frozen BK101.out 1; have hfz20_2 := blk_frozen BK101.out 2; have hnb21 := NB103_102.out; have hnc21 := NB102_103.out; have hnb22 := NB103_0.out; have hnc22 := NB0_103.out; have hcz23_0 : w16.cell? ⟨gb103, 0, none⟩ = some (u104000) := (blk_cell BK103.out 0).trans rfl; have hcz23_1 : w16.cell? ⟨gb103, 1, none⟩ = some (.int .i64 x104001_1) := (blk_cell BK103.out 1).trans rfl; have hfz23_0 := blk_frozen BK103.out 0; have hfz23_1 := blk_frozen BK103.out 1; obtain ⟨Ao24, co24, eo24⟩ := Kd.R_slice HO_104000.out; subst eo24) | ((with_reducible refine gate_callee (f := 44) rfl ?_); refine goesL_ (some 25) rfl rfl Try.func44 (by kernel_rfl) rfl #[.agg #[.int .i64 a1_0, .int .i64 a1_1, .int .i64 a1_2], .agg #[.slice Ao24 x104000_1.length co24, .int .i64 x104001_1], .int .i64 (wrap64 (x6_1 + t107))] rfl qff65 ?_; (with_reducible refine (spec_LockFail.calls k1 a1_0 a1_1 a1_2 _ _ x104000_1 x104001_1 (wrap64 (x6_1 + t107)) t110 t113 true _ ?side1 ?side2 A14.out).mono ?_); (case side1 => repeat (first | exact (Kd.R_reads' HO_104000.out).2.2 | (with_reducible refine Kd.C_alloc ?_ _) | (with_reducible refine Kd.C_drewN ?_ _) | (with_reducible refine Kd.C_drew ?_))); (case side2 => exact (Kd.R_reads' HO_104000.out).2.1); rintro e w25 ⟨v111, rfl, ho0, hb⟩; refine ⟨_, rfl, ?_⟩; have n0_ := Aside0.mk (Kd.R_elder' (qrf65 HO_104000.out) (Kd.R_base ho0) hb); have n1_ := Aside0.mk (Kd.R_lower (Kd.R_new' ho0 (Kd.R_lt (qrf65 HO_104000.out))) (keep_size (w := w) (g := g) (row := none) (q9f65 HK.out GW101.out GW102.out GW103.out))); have n2_ := Aside0.mk (blk_below (g := gb101) (qbf65 BK101.out) hb); have n3_ := Aside0.mk (blk_below (g := gb102) (qbf65 BK102.out) hb); have n4_ := Aside0.mk (blk_below (g := gb103) (qbf65 BK103.out) hb); have n5_ := Aside0.mk (IsS73.below (q10f65 HI0.out NB0_101.out NB0_102.out NB0_103.out) hb); have n6_ := Aside0.mk (KeepBut.trans (q9f65 HK.out GW101.out GW102.out GW103.out) (KeepBut.of_below hb g none) (.inl rfl)); have n7_ := Aside0.mk (below_step (q11f65 HB.out (IsS73.ge HI0.out) GE101.out GE102.out GE103.out) hb); clear HO_104000; clear BK101; clear BK102; clear BK103; clear HI0; clear HK; clear HB; have HO_104000 := n0_; have HO112 := n1_; have BK101 := n2_; have BK102 := n3_; have BK103 := n4_; have HI0 := n5_; have HK := n6_; have HB := n7_; clear n0_ n1_ n2_ n3_ n4_ n5_ n6_ n7_; (try clear hb); (try clear hb2); (try clear hk); (try clear hi); (try clear ho0)) | ((with_reducible refine gate_dst (N := 8) rfl ?_); refine box_event ?hg (N := 8) ?hd (cs := #[.slice none 0 0, .int .i64 0]) (t := 30) ?hr ?_; (case hd => rfl); (case hg => rfl); (case hr => first | (go_simp; done) | (go_simp; rfl)); intro gb115 hg w26 hbox hb; have n0_ := Aside0.mk (Kd.R_below (qrf65 HO_104000.out) hb); have n1_ := Aside0.mk (Kd.R_below (qrf65 HO112.out) hb); have n2_ := Aside0.mk (blk_below (g := gb101) (qbf65 BK101.out) hb); have n3_ := Aside0.mk (blk_below (g := gb102) (qbf65 BK102.out) hb); have n4_ := Aside0.mk (blk_below (g := gb103) (qbf65 BK103.out) hb); have n5_ := Aside0.mk (IsS73.below (q10f65 HI0.out NB0_101.out NB0_102.out NB0_103.out) hb); have n6_ := Aside0.mk (KeepBut.trans (q9f65 HK.out GW101.out GW102.out GW103.out) (KeepBut.of_below hb g none) (.inl rfl)); have n7_ := Aside0.mk (below_step (q11f65 HB.out (IsS73.ge HI0.out) GE101.out GE102.out GE103.out) hb); have n8_ := Aside0.mk (hbox); have n9_ := Aside0.mk ((qlef65 hg (keep_size (w := w) (g := g) (row := none) (q9f65 HK.out GW101.out GW102.out GW103.out)))); have n10_ := Aside0.mk ((Nat.le_trans HW0.out (qlef65 hg (keep_size (w := w) (g := g) (row := none) (q9f65 HK.out GW101.out GW102.out GW103.out))) : w0.heap.size ≤ gb115)); have n11_ := Aside0.mk ((by rw [hg]; exact Nat.ne_of_lt (blk_lt (g := gb101) (qbf65 BK101.out)) : gb101 ≠ gb115)); have n12_ := Aside0.mk ((by rw [hg]; exact Nat.ne_of_gt (blk_lt (g := gb101) (qbf65 BK101.out)) : gb115 ≠ gb101)); have n13_ := Aside0.mk ((by rw [hg]; exact Nat.ne_of_lt (blk_lt (g := gb102) (qbf65 BK102.out)) : gb102 ≠ gb115)); have n14_ := Aside0.mk ((by rw [hg]; exact Nat.ne_of_gt (blk_lt (g := gb102) (qbf65 BK102.out)) : gb115 ≠ gb102)); have n15_ := Aside0.mk ((by rw [hg]; exact Nat.ne_of_lt (blk_lt (g := gb103) (qbf65 BK103.out)) : gb103 ≠ gb115)); have n16_ := Aside0.mk ((by rw [hg]; exact Nat.ne_of_gt (blk_lt (g := gb103) (qbf65 BK103.out)) : gb115 ≠ gb103)); have n17_ := Aside0.mk ((by rw [hg]; exact Nat.ne_of_lt (IsS73.lt (show IsS73 w0 _ g s0_0 t108 t109 from (q10f65 HI0.out NB0_101.out NB0_102.out NB0_103.out))) : g ≠ gb115)); have n18_ := Aside0.mk ((by rw [hg]; exact Nat.ne_of_gt (IsS73.lt (show IsS73 w0 _ g s0_0 t108 t109 from (q10f65 HI0.out NB0_101.out NB0_102.out NB0_103.out))) : gb115 ≠ g)); clear HO_104000; clear HO112; clear BK101; clear BK102; clear BK103; clear HI0; clear HK; clear HB; have HO_104000 := n0_; have HO112 := n1_; have BK101 := n2_; have BK102 := n3_; have BK103 := n4_; have HI0 := n5_; have HK := n6_; have HB := n7_; have BK115 := n8_; have GW115 := n9_; have GE115 := n10_; have NB101_115 := n11_; have NB115_101 := n12_; have NB102_115 := n13_; have NB115_102 := n14_; have NB103_115 := n15_; have NB115_103 := n16_; have NB0_115 := n17_; have NB115_0 := n18_; clear n0_ n1_ n2_ n3_ n4_ n5_ n6_ n7_ n8_ n9_ n10_ n11_ n12_ n13_ n14_ n15_ n16_ n17_ n18_; clear hb hbox hg; obtain ⟨Ao27, co27, eo27⟩ := Kd.R_slice HO112.out; subst eo27; have hnb28 := NB115_101.out; have hnc28 := NB101_115.out; have hnb29 := NB115_102.out; have hnc29 := NB102_115.out; have hnb30 := NB115_103.out; have hnc30 := NB103_115.out; have hnb31 := NB115_0.out; have hnc31 := NB0_115.out; have hcz32_0 : w26.cell? ⟨gb115, 0, none⟩ = some (.slice none 0 0) := (blk_cell BK115.out 0).trans rfl; have hcz32_1 : w26.cell? ⟨gb115, 1, none⟩ = some (.int .i64 0) := (blk_cell BK115.out 1).trans rfl; have hfz32_0 := blk_frozen BK115.out 0; have hfz32_1 := blk_frozen BK115.out 1; have hcz33_0 : w26.cell? ⟨gb103, 0, none⟩ = some (.slice Ao24 x104000_1.length co24) := (blk_cell BK103.out 0).trans rfl; have hcz33_1 : w26.cell? ⟨gb103, 1, none⟩ = some (.int .i64 x104001_1) := (blk_cell BK103.out 1).trans rfl; have hfz33_0 := blk_frozen BK103.out 0; have hfz33_1 := blk_frozen BK103.out 1))
     go_roundg k1
     case measure => have := HK1.out; omega
     case rel => exact ⟨(wrap64 (x6_1 + t107)), (wrap64 (x7_1 - 1)), (t108), (t109), (t110), (t113), (.slice Ao27 t110.length co27), (by first | rfl | (simp; done) | (simp [*]; done)), (by first | rfl | (simp; done) | (simp [*]; done)), H', ⟨by have := HK1.out; omega⟩, ⟨by (with_reducible repeat (first | apply Kd.R_alloc | apply Kd.R_drewN | apply Kd.R_drew)); exact Kd.R_mono (Kd.R_far (p := ⟨gb103, 1, none⟩) (Kd.R_far (p := ⟨gb103, 0, none⟩) (Kd.R_far (p := ⟨gb115, 1, none⟩) (Kd.R_far (p := ⟨gb115, 0, none⟩) (Kd.R_types (Kd.R_types HO112.out BK115.out (by decide)) BK103.out (by decide)) (fun _ hk => hk.1.2) (.slice Ao27 t110.length co27)) (fun _ hk => hk.1.2) (.int .i64 t113)) (fun _ hk => hk.2) (.slice Ao27 t110.length co27)) (fun _ hk => hk.2) (.int .i64 t113)) (fun _ hk => trivial)⟩, ⟨by (with_reducible repeat (first | refine blk_drewN ?_ _ | refine blk_drew ?_ | refine blk_alloc ?_ _)); refine blk_far ?_ NB101_103.out _; (with_reducible repeat (first | refine blk_drewN ?_ _ | refine blk_drew ?_ | refine blk_alloc ?_ _)); refine blk_far ?_ NB101_103.out _; (with_reducible repeat (first | refine blk_drewN ?_ _ | refine blk_drew ?_ | refine blk_alloc ?_ _)); refine blk_far ?_ NB101_115.out _; (with_reducible repeat (first | refine blk_drewN ?_ _ | refine blk_drew ?_ | refine blk_alloc ?_ _)); refine blk_far ?_ NB101_115.out _; (with_reducible repeat (first | refine blk_drewN ?_ _ | refine blk_drew ?_ | refine blk_alloc ?_ _)); exact BK101.out⟩, ⟨by (with_reducible repeat (first | refine blk_drewN ?_ _ | refine blk_drew ?_ | refine blk_alloc ?_ _)); refine blk_far ?_ NB102_103.out _; (with_reducible repeat (first | refine blk_drewN ?_ _ | refine blk_drew ?_ | refine blk_alloc ?_ _)); refine blk_far ?_ NB102_103.out _; (with_reducible repeat (first | refine blk_drewN ?_ _ | refine blk_drew ?_ | refine blk_alloc ?_ _)); refine blk_far ?_ NB102_115.out _; (with_reducible repeat (first | refine blk_drewN ?_ _ | refine blk_drew ?_ | refine blk_alloc ?_ _)); refine blk_far ?_ NB102_115.out _; (with_reducible repeat (first | refine blk_drewN ?_ _ | refine blk_drew ?_ | refine blk_alloc ?_ _)); exact BK102.out⟩, ⟨by (with_reducible repeat (first | refine blk_drewN ?_ _ | refine blk_drew ?_ | refine blk_alloc ?_ _)); refine blk_put (cs := #[.slice Ao27 t110.length co27, .int .i64 x104001_1]) ?_ 1 _ rfl; (with_reducible repeat (first | refine blk_drewN ?_ _ | refine blk_drew ?_ | refine blk_alloc ?_ _)); refine blk_put (cs := #[.slice Ao24 x104000_1.length co24, .int .i64 x104001_1]) ?_ 0 _ rfl; (with_reducible repeat (first | refine blk_drewN ?_ _ | refine blk_drew ?_ | refine blk_alloc ?_ _)); refine blk_far ?_ NB103_115.out _; (with_reducible repeat (first | refine blk_drewN ?_ _ | refine blk_drew ?_ | refine blk_alloc ?_ _)); refine blk_far ?_ NB103_115.out _; (with_reducible repeat (first | refine blk_drewN ?_ _ | refine blk_drew ?_ | refine blk_alloc ?_ _)); exact BK103.out⟩, ⟨(q12f65 HI0.out NB0_101.out NB0_102.out NB0_103.out NB0_115.out)⟩, ⟨(q13f65 HK.out GW101.out GW102.out GW103.out GW115.out)⟩, ⟨(q14f65 HB.out (IsS73.ge HI0.out) GE101.out GE102.out GE103.out GE115.out)⟩⟩
    ·
     replace c15 := Bool.eq_false_iff.mpr c15
     subst c15
     have H1 : (spec_l21Lock.l0 k1 (wrap64 (x6_1 + t107)) (wrap64 (x7_1 - 1)) s0_0 t108 t109 a1_0 a1_1 a1_2 x104000_1 x104001_1) = some (r1, r2, r3, r4) := by rw [if_neg (show ¬ (false = true) by decide)] at H; exact H
     clear H
     have H := H1
     clear H1
     have H' := Aside0.mk H
     clear H
     go_wp2_with (first | ((with_reducible refine gate_callee (f := 67) rfl ?_); refine goesL_ (some 19) rfl rfl Try.func67 (by kernel_rfl) rfl #[.pointer (some ⟨g, 0, none⟩), .int .i64 8] rfl qff65 ?_; (with_reducible refine (spec_l1Below.calls g s0_0 x1001_1 x1002_1 8 t107 t108 t109 w0 _ ?side1 ?side2 A13.out).mono ?_); (case side1 => repeat (first | (with_reducible first | exact HI0.out | apply IsS73.alloc | apply IsS73.drewN | apply IsS73.drew | apply IsS73.set_1 | apply IsS73.set_2 | refine IsS73.far ?_ NB0_101.out _ | refine IsS73.far ?_ NB0_102.out _ | refine IsS73.far ?_ NB0_103.out _) | exact HI0.out)); (case side2 => repeat (first | (with_reducible first | exact HB.out | apply below_alloc | apply pw_below_drewN | apply below_drew1 | refine below_set ?_ (IsS73.ge HI0.out) | refine below_set ?_ GE101.out | refine below_set ?_ GE102.out | refine below_set ?_ GE103.out) | exact HB.out)); rintro e w34 ⟨rfl, hi, hb, hk⟩; refine ⟨_, rfl, ?_⟩; have n0_ := Aside0.mk (Kd.R_mono (Kd.R_keep (IsS73.apart (show IsS73 w0 _ g s0_0 x1001_1 x1002_1 from (q10f65 HI0.out NB0_101.out NB0_102.out NB0_103.out)) (qrf65 HO_104000.out) (by decide)) hk (fun _ h => h.2)) (fun _ h => h.1)); have n1_ := Aside0.mk (KeepBut.blk hk (g' := gb101) (o := .cells #[.int .i64 a1_0, .int .i64 a1_1, .int .i64 a1_2] 40 (0, 0)) (qbf65 BK101.out) NB101_0.out (by simp)); have n2_ := Aside0.mk (KeepBut.blk hk (g' := gb102) (o := .cells #[.slice none 0 0, .int .i64 0] 30 (0, 0)) (qbf65 BK102.out) NB102_0.out (by simp)); have n3_ := Aside0.mk (KeepBut.blk hk (g' := gb103) (o := .cells #[u104000, .int .i64 x104001_1] 30 (0, 0)) (qbf65 BK103.out) NB103_0.out (by simp)); have n4_ := Aside0.mk (KeepBut.trans (q9f65 HK.out GW101.out GW102.out GW103.out) hk (.inl rfl)); have n5_ := Aside0.mk (hb); have n6_ := Aside0.mk (hi); clear HO_104000; clear BK101; clear BK102; clear BK103; clear HK; clear HB; clear HI0; have HO_104000 := n0_; have BK101 := n1_; have BK102 := n2_; have BK103 := n3_; have HK := n4_; have HB := n5_; have HI0 := n6_; clear n0_ n1_ n2_ n3_ n4_ n5_ n6_; (try clear hb); (try clear hb2); (try clear hk); (try clear hi); have hnb35 := NB101_102.out; have hnc35 := NB102_101.out; have hnb36 := NB101_103.out; have hnc36 := NB103_101.out; have hnb37 := NB101_0.out; have hnc37 := NB0_101.out; have hcz38_0 : w34.cell? ⟨gb101, 0, none⟩ = some (.int .i64 a1_0) := (blk_cell BK101.out 0).trans rfl; have hcz38_1 : w34.cell? ⟨gb101, 1, none⟩ = some (.int .i64 a1_1) := (blk_cell BK101.out 1).trans rfl; have hcz38_2 : w34.cell? ⟨gb101, 2, none⟩ = some (.int .i64 a1_2) := (blk_cell BK101.out 2).trans rfl; have hfz38_0 := blk_frozen BK101.out 0; have hfz38_1 := blk_frozen BK101.out 1; have hfz38_2 := blk_frozen BK101.out 2; have hnb39 := NB103_102.out; have hnc39 := NB102_103.out; have hnb40 := NB103_0.out; have hnc40 := NB0_103.out; have hcz41_0 : w34.cell? ⟨gb103, 0, none⟩ = some (u104000) := (blk_cell BK103.out 0).trans rfl; have hcz41_1 : w34.cell? ⟨gb103, 1, none⟩ = some (.int .i64 x104001_1) := (blk_cell BK103.out 1).trans rfl; have hfz41_0 := blk_frozen BK103.out 0; have hfz41_1 := blk_frozen BK103.out 1; obtain ⟨Ao42, co42, eo42⟩ := Kd.R_slice HO_104000.out; subst eo42) | ((with_reducible refine gate_callee (f := 44) rfl ?_); refine goesL_ (some 25) rfl rfl Try.func44 (by kernel_rfl) rfl #[.agg #[.int .i64 a1_0, .int .i64 a1_1, .int .i64 a1_2], .agg #[.slice Ao42 x104000_1.length co42, .int .i64 x104001_1], .int .i64 (wrap64 (x6_1 + t107))] rfl qff65 ?_; (with_reducible refine (spec_LockFail.calls k1 a1_0 a1_1 a1_2 _ _ x104000_1 x104001_1 (wrap64 (x6_1 + t107)) t110 t113 false _ ?side1 ?side2 A14.out).mono ?_); (case side1 => repeat (first | exact (Kd.R_reads' HO_104000.out).2.2 | (with_reducible refine Kd.C_alloc ?_ _) | (with_reducible refine Kd.C_drewN ?_ _) | (with_reducible refine Kd.C_drew ?_))); (case side2 => exact (Kd.R_reads' HO_104000.out).2.1); rintro e w43 ⟨v111, rfl, ho0, hb⟩; refine ⟨_, rfl, ?_⟩; have n0_ := Aside0.mk (Kd.R_elder' (qrf65 HO_104000.out) (Kd.R_base ho0) hb); have n1_ := Aside0.mk (Kd.R_lower (Kd.R_new' ho0 (Kd.R_lt (qrf65 HO_104000.out))) (keep_size (w := w) (g := g) (row := none) (q9f65 HK.out GW101.out GW102.out GW103.out))); have n2_ := Aside0.mk (blk_below (g := gb101) (qbf65 BK101.out) hb); have n3_ := Aside0.mk (blk_below (g := gb102) (qbf65 BK102.out) hb); have n4_ := Aside0.mk (blk_below (g := gb103) (qbf65 BK103.out) hb); have n5_ := Aside0.mk (IsS73.below (q10f65 HI0.out NB0_101.out NB0_102.out NB0_103.out) hb); have n6_ := Aside0.mk (KeepBut.trans (q9f65 HK.out GW101.out GW102.out GW103.out) (KeepBut.of_below hb g none) (.inl rfl)); have n7_ := Aside0.mk (below_step (q11f65 HB.out (IsS73.ge HI0.out) GE101.out GE102.out GE103.out) hb); clear HO_104000; clear BK101; clear BK102; clear BK103; clear HI0; clear HK; clear HB; have HO_104000 := n0_; have HO112 := n1_; have BK101 := n2_; have BK102 := n3_; have BK103 := n4_; have HI0 := n5_; have HK := n6_; have HB := n7_; clear n0_ n1_ n2_ n3_ n4_ n5_ n6_ n7_; (try clear hb); (try clear hb2); (try clear hk); (try clear hi); (try clear ho0)) | ((with_reducible refine gate_dst (N := 8) rfl ?_); refine box_event ?hg (N := 8) ?hd (cs := #[.slice none 0 0, .int .i64 0]) (t := 30) ?hr ?_; (case hd => rfl); (case hg => rfl); (case hr => first | (go_simp; done) | (go_simp; rfl)); intro gb115 hg w44 hbox hb; have n0_ := Aside0.mk (Kd.R_below (qrf65 HO_104000.out) hb); have n1_ := Aside0.mk (Kd.R_below (qrf65 HO112.out) hb); have n2_ := Aside0.mk (blk_below (g := gb101) (qbf65 BK101.out) hb); have n3_ := Aside0.mk (blk_below (g := gb102) (qbf65 BK102.out) hb); have n4_ := Aside0.mk (blk_below (g := gb103) (qbf65 BK103.out) hb); have n5_ := Aside0.mk (IsS73.below (q10f65 HI0.out NB0_101.out NB0_102.out NB0_103.out) hb); have n6_ := Aside0.mk (KeepBut.trans (q9f65 HK.out GW101.out GW102.out GW103.out) (KeepBut.of_below hb g none) (.inl rfl)); have n7_ := Aside0.mk (below_step (q11f65 HB.out (IsS73.ge HI0.out) GE101.out GE102.out GE103.out) hb); have n8_ := Aside0.mk (hbox); have n9_ := Aside0.mk ((qlef65 hg (keep_size (w := w) (g := g) (row := none) (q9f65 HK.out GW101.out GW102.out GW103.out)))); have n10_ := Aside0.mk ((Nat.le_trans HW0.out (qlef65 hg (keep_size (w := w) (g := g) (row := none) (q9f65 HK.out GW101.out GW102.out GW103.out))) : w0.heap.size ≤ gb115)); have n11_ := Aside0.mk ((by rw [hg]; exact Nat.ne_of_lt (blk_lt (g := gb101) (qbf65 BK101.out)) : gb101 ≠ gb115)); have n12_ := Aside0.mk ((by rw [hg]; exact Nat.ne_of_gt (blk_lt (g := gb101) (qbf65 BK101.out)) : gb115 ≠ gb101)); have n13_ := Aside0.mk ((by rw [hg]; exact Nat.ne_of_lt (blk_lt (g := gb102) (qbf65 BK102.out)) : gb102 ≠ gb115)); have n14_ := Aside0.mk ((by rw [hg]; exact Nat.ne_of_gt (blk_lt (g := gb102) (qbf65 BK102.out)) : gb115 ≠ gb102)); have n15_ := Aside0.mk ((by rw [hg]; exact Nat.ne_of_lt (blk_lt (g := gb103) (qbf65 BK103.out)) : gb103 ≠ gb115)); have n16_ := Aside0.mk ((by rw [hg]; exact Nat.ne_of_gt (blk_lt (g := gb103) (qbf65 BK103.out)) : gb115 ≠ gb103)); have n17_ := Aside0.mk ((by rw [hg]; exact Nat.ne_of_lt (IsS73.lt (show IsS73 w0 _ g s0_0 t108 t109 from (q10f65 HI0.out NB0_101.out NB0_102.out NB0_103.out))) : g ≠ gb115)); have n18_ := Aside0.mk ((by rw [hg]; exact Nat.ne_of_gt (IsS73.lt (show IsS73 w0 _ g s0_0 t108 t109 from (q10f65 HI0.out NB0_101.out NB0_102.out NB0_103.out))) : gb115 ≠ g)); clear HO_104000; clear HO112; clear BK101; clear BK102; clear BK103; clear HI0; clear HK; clear HB; have HO_104000 := n0_; have HO112 := n1_; have BK101 := n2_; have BK102 := n3_; have BK103 := n4_; have HI0 := n5_; have HK := n6_; have HB := n7_; have BK115 := n8_; have GW115 := n9_; have GE115 := n10_; have NB101_115 := n11_; have NB115_101 := n12_; have NB102_115 := n13_; have NB115_102 := n14_; have NB103_115 := n15_; have NB115_103 := n16_; have NB0_115 := n17_; have NB115_0 := n18_; clear n0_ n1_ n2_ n3_ n4_ n5_ n6_ n7_ n8_ n9_ n10_ n11_ n12_ n13_ n14_ n15_ n16_ n17_ n18_; clear hb hbox hg; obtain ⟨Ao45, co45, eo45⟩ := Kd.R_slice HO112.out; subst eo45; have hnb46 := NB115_101.out; have hnc46 := NB101_115.out; have hnb47 := NB115_102.out; have hnc47 := NB102_115.out; have hnb48 := NB115_103.out; have hnc48 := NB103_115.out; have hnb49 := NB115_0.out; have hnc49 := NB0_115.out; have hcz50_0 : w44.cell? ⟨gb115, 0, none⟩ = some (.slice none 0 0) := (blk_cell BK115.out 0).trans rfl; have hcz50_1 : w44.cell? ⟨gb115, 1, none⟩ = some (.int .i64 0) := (blk_cell BK115.out 1).trans rfl; have hfz50_0 := blk_frozen BK115.out 0; have hfz50_1 := blk_frozen BK115.out 1))
     go_roundg k1
     case measure => have := HK1.out; omega
     case rel => exact ⟨(wrap64 (x6_1 + t107)), (wrap64 (x7_1 - 1)), (t108), (t109), (x104000_1), (x104001_1), (.slice Ao42 x104000_1.length co42), (by first | rfl | (simp; done) | (simp [*]; done)), (by first | rfl | (simp; done) | (simp [*]; done)), H', ⟨by have := HK1.out; omega⟩, ⟨by (with_reducible repeat (first | apply Kd.R_alloc | apply Kd.R_drewN | apply Kd.R_drew)); exact Kd.R_mono (Kd.R_far (p := ⟨gb115, 1, none⟩) (Kd.R_far (p := ⟨gb115, 0, none⟩) (Kd.R_types HO_104000.out BK115.out (by decide)) (fun _ hk => hk.2) (.slice Ao45 t110.length co45)) (fun _ hk => hk.2) (.int .i64 t113)) (fun _ hk => trivial)⟩, ⟨by (with_reducible repeat (first | refine blk_drewN ?_ _ | refine blk_drew ?_ | refine blk_alloc ?_ _)); refine blk_far ?_ NB101_115.out _; (with_reducible repeat (first | refine blk_drewN ?_ _ | refine blk_drew ?_ | refine blk_alloc ?_ _)); refine blk_far ?_ NB101_115.out _; (with_reducible repeat (first | refine blk_drewN ?_ _ | refine blk_drew ?_ | refine blk_alloc ?_ _)); exact BK101.out⟩, ⟨by (with_reducible repeat (first | refine blk_drewN ?_ _ | refine blk_drew ?_ | refine blk_alloc ?_ _)); refine blk_far ?_ NB102_115.out _; (with_reducible repeat (first | refine blk_drewN ?_ _ | refine blk_drew ?_ | refine blk_alloc ?_ _)); refine blk_far ?_ NB102_115.out _; (with_reducible repeat (first | refine blk_drewN ?_ _ | refine blk_drew ?_ | refine blk_alloc ?_ _)); exact BK102.out⟩, ⟨by (with_reducible repeat (first | refine blk_drewN ?_ _ | refine blk_drew ?_ | refine blk_alloc ?_ _)); refine blk_far ?_ NB103_115.out _; (with_reducible repeat (first | refine blk_drewN ?_ _ | refine blk_drew ?_ | refine blk_alloc ?_ _)); refine blk_far ?_ NB103_115.out _; (with_reducible repeat (first | refine blk_drewN ?_ _ | refine blk_drew ?_ | refine blk_alloc ?_ _)); exact BK103.out⟩, ⟨(q12f65 HI0.out NB0_101.out NB0_102.out NB0_103.out NB0_115.out)⟩, ⟨(q13f65 HK.out GW101.out GW102.out GW103.out GW115.out)⟩, ⟨(q14f65 HB.out (IsS73.ge HI0.out) GE101.out GE102.out GE103.out GE115.out)⟩⟩
   ·
    rw [if_neg c12] at H
    have c12b0 : decide (0 < x7_1) = false := decide_eq_false c12
    clear c12
    replace H := Option.bind_eq_some_iff.mp H
    obtain ⟨⟨t116, t117, t118⟩, A510, H⟩ := H
    replace H : (if t116 = true then ((spec_l1Below.f s0_0 t117 t118 3).bind fun bt119 => (if bt119.1 = 0 then ((spec_l1Below.f s0_0 bt119.2.1 bt119.2.2 9).bind fun bt122 => (if x104000_1.length < 17592186044416 then (some ((x104000_1 ++ [wrap64 (bt122.1 - 1)]), x104001_1, bt122.2.1, bt122.2.2)) else (none))) else (if bt119.1 = 1 then ((spec_l1PickInt.f s0_0 bt119.2.1 bt119.2.2 (([(-1), 0, 101000, 101001] : List Int))).bind fun bt131 => (some (x104000_1, bt131.1, bt131.2.1, bt131.2.2))) else ((some (([5, 5, 5, 5] : List Int) : List Int)).bind fun y134 => (if x104000_1.length + y134.length < 17592186044416 then (some ((x104000_1 ++ y134), x104001_1, bt119.2.1, bt119.2.2)) else (none)))))) else (some (x104000_1, x104001_1, t117, t118))) = some (r1, r2, r3, r4) := H
    have A51 := Aside0.mk A510
    clear A510
    by_cases c52 : t116 = true
    ·
     subst c52
     have H1 : ((spec_l1Below.f s0_0 t117 t118 3).bind fun bt119 => (if bt119.1 = 0 then ((spec_l1Below.f s0_0 bt119.2.1 bt119.2.2 9).bind fun bt122 => (if x104000_1.length < 17592186044416 then (some ((x104000_1 ++ [wrap64 (bt122.1 - 1)]), x104001_1, bt122.2.1, bt122.2.2)) else (none))) else (if bt119.1 = 1 then ((spec_l1PickInt.f s0_0 bt119.2.1 bt119.2.2 (([(-1), 0, 101000, 101001] : List Int))).bind fun bt131 => (some (x104000_1, bt131.1, bt131.2.1, bt131.2.2))) else ((some (([5, 5, 5, 5] : List Int) : List Int)).bind fun y134 => (if x104000_1.length + y134.length < 17592186044416 then (some ((x104000_1 ++ y134), x104001_1, bt119.2.1, bt119.2.2)) else (none)))))) = some (r1, r2, r3, r4) := by rw [if_pos rfl] at H; exact H
     clear H
     have H := H1
     clear H1
     replace H := Option.bind_eq_some_iff.mp H
     obtain ⟨⟨t119, t120, t121⟩, A530, H⟩ := H
     replace H : (if t119 = 0 then ((spec_l1Below.f s0_0 t120 t121 9).bind fun bt122 => (if x104000_1.length < 17592186044416 then (some ((x104000_1 ++ [wrap64 (bt122.1 - 1)]), x104001_1, bt122.2.1, bt122.2.2)) else (none))) else (if t119 = 1 then ((spec_l1PickInt.f s0_0 t120 t121 (([(-1), 0, 101000, 101001] : List Int))).bind fun bt131 => (some (x104000_1, bt131.1, bt131.2.1, bt131.2.2))) else ((some (([5, 5, 5, 5] : List Int) : List Int)).bind fun y134 => (if x104000_1.length + y134.length < 17592186044416 then (some ((x104000_1 ++ y134), x104001_1, t120, t121)) else (none))))) = some (r1, r2, r3, r4) := H
     have A53 := Aside0.mk A530
     clear A530
     by_cases c54 : t119 = 0
     ·
      rw [if_pos c54] at H
      have c54b0 : (t119 == 0) = true := beq_iff_eq.mpr c54
      have c54b1 : (t119 != 0) = false := bne_eq_false_iff_eq.mpr c54
      clear c54
      replace H := Option.bind_eq_some_iff.mp H
      obtain ⟨⟨t122, t123, t124⟩, A550, H⟩ := H
      replace H : (if x104000_1.length < 17592186044416 then (some ((x104000_1 ++ [wrap64 (t122 - 1)]), x104001_1, t123, t124)) else (none)) = some (r1, r2, r3, r4) := H
      have A55 := Aside0.mk A550
      clear A550
      by_cases c56 : x104000_1.length < 17592186044416
      ·
       rw [if_pos c56] at H
       have LMc56 := Aside0.mk c56
       clear c56
       obtain ⟨y125, hy125⟩ : ∃ y_ : List Int, y_ = (x104000_1 ++ [wrap64 (t122 - 1)]) := ⟨_, rfl⟩
       replace H : (some (y125, x104001_1, t123, t124)) = some (r1, r2, r3, r4) := by first | (rw [hy125]; with_reducible exact H) | (have H2_ := (Option.bind_some _ _).symm.trans H; rw [hy125]; with_reducible exact H2_) | (have H2_ := (Option.bind_some _ _).symm.trans H; with_reducible exact H2_) | with_reducible exact H | (rw [hy125]; exact H) | exact H
       have Ny125 := Aside0.mk hy125
       clear hy125
       simp only [Option.some.injEq, Prod.mk.injEq] at H
       obtain ⟨rfl, rfl, rfl, rfl⟩ := H
       try go_wp2_with (first | ((with_reducible refine gate_callee (f := 69) rfl ?_); refine goesL_ (some 31) rfl rfl Try.func69 (by kernel_rfl) rfl #[.pointer (some ⟨g, 0, none⟩), .int .i64 10] rfl qff65 ?_; (with_reducible refine (spec_l1Once.calls g s0_0 x1001_1 x1002_1 10 true t117 t118 w0 _ ?side1 ?side2 A51.out).mono ?_); (case side1 => repeat (first | (with_reducible first | exact HI0.out | apply IsS73.alloc | apply IsS73.drewN | apply IsS73.drew | apply IsS73.set_1 | apply IsS73.set_2 | refine IsS73.far ?_ NB0_101.out _ | refine IsS73.far ?_ NB0_102.out _ | refine IsS73.far ?_ NB0_103.out _) | exact HI0.out)); (case side2 => repeat (first | (with_reducible first | exact HB.out | apply below_alloc | apply pw_below_drewN | apply below_drew1 | refine below_set ?_ (IsS73.ge HI0.out) | refine below_set ?_ GE101.out | refine below_set ?_ GE102.out | refine below_set ?_ GE103.out) | exact HB.out)); rintro e w57 ⟨rfl, hi, hb, hk⟩; refine ⟨_, rfl, ?_⟩; have n0_ := Aside0.mk (Kd.R_mono (Kd.R_keep (IsS73.apart (show IsS73 w0 _ g s0_0 x1001_1 x1002_1 from (q10f65 HI0.out NB0_101.out NB0_102.out NB0_103.out)) (qrf65 HO_104000.out) (by decide)) hk (fun _ h => h.2)) (fun _ h => h.1)); have n1_ := Aside0.mk (KeepBut.blk hk (g' := gb101) (o := .cells #[.int .i64 a1_0, .int .i64 a1_1, .int .i64 a1_2] 40 (0, 0)) (qbf65 BK101.out) NB101_0.out (by simp)); have n2_ := Aside0.mk (KeepBut.blk hk (g' := gb102) (o := .cells #[.slice none 0 0, .int .i64 0] 30 (0, 0)) (qbf65 BK102.out) NB102_0.out (by simp)); have n3_ := Aside0.mk (KeepBut.blk hk (g' := gb103) (o := .cells #[u104000, .int .i64 x104001_1] 30 (0, 0)) (qbf65 BK103.out) NB103_0.out (by simp)); have n4_ := Aside0.mk (KeepBut.trans (q9f65 HK.out GW101.out GW102.out GW103.out) hk (.inl rfl)); have n5_ := Aside0.mk (hb); have n6_ := Aside0.mk (hi); clear HO_104000; clear BK101; clear BK102; clear BK103; clear HK; clear HB; clear HI0; have HO_104000 := n0_; have BK101 := n1_; have BK102 := n2_; have BK103 := n3_; have HK := n4_; have HB := n5_; have HI0 := n6_; clear n0_ n1_ n2_ n3_ n4_ n5_ n6_; (try clear hb); (try clear hb2); (try clear hk); (try clear hi)) | ((with_reducible refine gate_callee (f := 67) rfl ?_); refine goesL_ (some 33) rfl rfl Try.func67 (by kernel_rfl) rfl #[.pointer (some ⟨g, 0, none⟩), .int .i64 3] rfl qff65 ?_; (with_reducible refine (spec_l1Below.calls g s0_0 t117 t118 3 t119 t120 t121 w0 _ ?side1 ?side2 A53.out).mono ?_); (case side1 => repeat (first | (with_reducible first | exact HI0.out | apply IsS73.alloc | apply IsS73.drewN | apply IsS73.drew | apply IsS73.set_1 | apply IsS73.set_2 | refine IsS73.far ?_ NB0_101.out _ | refine IsS73.far ?_ NB0_102.out _ | refine IsS73.far ?_ NB0_103.out _) | exact HI0.out)); (case side2 => repeat (first | (with_reducible first | exact HB.out | apply below_alloc | apply pw_below_drewN | apply below_drew1 | refine below_set ?_ (IsS73.ge HI0.out) | refine below_set ?_ GE101.out | refine below_set ?_ GE102.out | refine below_set ?_ GE103.out) | exact HB.out)); rintro e w58 ⟨rfl, hi, hb, hk⟩; refine ⟨_, rfl, ?_⟩; have n0_ := Aside0.mk (Kd.R_mono (Kd.R_keep (IsS73.apart (show IsS73 w0 _ g s0_0 t117 t118 from (q10f65 HI0.out NB0_101.out NB0_102.out NB0_103.out)) (qrf65 HO_104000.out) (by decide)) hk (fun _ h => h.2)) (fun _ h => h.1)); have n1_ := Aside0.mk (KeepBut.blk hk (g' := gb101) (o := .cells #[.int .i64 a1_0, .int .i64 a1_1, .int .i64 a1_2] 40 (0, 0)) (qbf65 BK101.out) NB101_0.out (by simp)); have n2_ := Aside0.mk (KeepBut.blk hk (g' := gb102) (o := .cells #[.slice none 0 0, .int .i64 0] 30 (0, 0)) (qbf65 BK102.out) NB102_0.out (by simp)); have n3_ := Aside0.mk (KeepBut.blk hk (g' := gb103) (o := .cells #[u104000, .int .i64 x104001_1] 30 (0, 0)) (qbf65 BK103.out) NB103_0.out (by simp)); have n4_ := Aside0.mk (KeepBut.trans (q9f65 HK.out GW101.out GW102.out GW103.out) hk (.inl rfl)); have n5_ := Aside0.mk (hb); have n6_ := Aside0.mk (hi); clear HO_104000; clear BK101; clear BK102; clear BK103; clear HK; clear HB; clear HI0; have HO_104000 := n0_; have BK101 := n1_; have BK102 := n2_; have BK103 := n3_; have HK := n4_; have HB := n5_; have HI0 := n6_; clear n0_ n1_ n2_ n3_ n4_ n5_ n6_; (try clear hb); (try clear hb2); (try clear hk); (try clear hi)))
       have n0_ := Aside0.mk (Kd.R_drew HO_104000.out)
       have n1_ := Aside0.mk (blk_drew BK101.out)
       have n2_ := Aside0.mk (blk_drew BK102.out)
       have n3_ := Aside0.mk (blk_drew BK103.out)
       have n4_ := Aside0.mk (IsS73.drew HI0.out)
       have n5_ := Aside0.mk (keep_drew HK.out)
       have n6_ := Aside0.mk (below_drew1 HB.out)
       clear HO_104000
       clear BK101
       clear BK102
       clear BK103
       clear HI0
       clear HK
       clear HB
       have HO_104000 := n0_
       have BK101 := n1_
       have BK102 := n2_
       have BK103 := n3_
       have HI0 := n4_
       have HK := n5_
       have HB := n6_
       clear n0_ n1_ n2_ n3_ n4_ n5_ n6_
       refine start_ (n := 9) (S := fun w' => w'.cell? ⟨gb103, 0, none⟩ = some (u104000) ∧ w'.cell? ⟨gb103, 1, none⟩ = some (.int .i64 x104001_1)) (ds := [8]) (rlf65 [0, 9]) (by kernel_rfl) rfl rfl ⟨(blk_cell BK103.out 0).trans rfl, (blk_cell BK103.out 1).trans rfl⟩ (fun hHeld => ?_); refine with_tabW spec_l21Lock.tab14 spec_l21Lock.bits14 (fun HT_ HW_ => ?_)
       generalize w58.drew = w59 at HO_104000 BK101 BK102 BK103 HI0 HK HB hHeld ⊢
       refine pure_ (i := 0) (N := some 41) (v := ?_) (a' := ?_) (rlf65 [1, 8]) rfl rfl (any_of HT_.out (by kernel_rfl)) (fun _ _ _ h => h) (Or.inl ⟨by rfl, ?_⟩) ?_ ?_
       rotate_left
       ·
        intro w'
        go_simp
        with_reducible rfl
       rotate_left
       ·
        exact qsf65
       refine pure_ (i := 2) (N := some 43) (v := ?_) (a' := ?_) (rlf65 [1, 1, 1, 6]) rfl rfl (any_of HT_.out (by kernel_rfl)) (fun _ _ _ h => h) (Or.inl ⟨by rfl, ?_⟩) ?_ ?_
       rotate_left
       ·
        intro w'
        go_simp
        with_reducible rfl
       rotate_left
       ·
        exact qsf65
       refine take_ (i := 1) (N := some 42) (v := ?_) (a' := ?_) (rlf65 [3, 6]) rfl rfl (take_ofW HT_.out HW_.out (by kernel_rfl)) (fun _ _ _ h => h) (Or.inl ⟨by rfl, ?_⟩) hHeld ?_ ?_
       rotate_left
       ·
        rintro w' ⟨s0, s1⟩
        go_simp
        with_reducible rfl
       rotate_left
       ·
        exact qsf65
       refine one_ (i := 3) (N := some 44) (rlf65 [4, 5]) rfl rfl (one_of HT_.out (by kernel_rfl)) (by decide) (fun K hK => ?_)
       refine goes_ Try.func67 (by kernel_rfl) rfl #[.pointer (some ⟨g, 0, none⟩), .int .i64 9] (by rfl) rfl rfl qff65 ?_
       with_reducible refine (spec_l1Below.calls g s0_0 t120 t121 9 t122 t123 t124 w0 _ ?side1 ?side2 A55.out).mono ?_
       (case side1 => repeat (first | (with_reducible first | exact HI0.out | apply IsS73.alloc | apply IsS73.drewN | apply IsS73.drew | apply IsS73.set_1 | apply IsS73.set_2 | refine IsS73.far ?_ NB0_101.out _ | refine IsS73.far ?_ NB0_102.out _ | refine IsS73.far ?_ NB0_103.out _) | exact HI0.out))
       (case side2 => repeat (first | (with_reducible first | exact HB.out | apply below_alloc | apply pw_below_drewN | apply below_drew1 | refine below_set ?_ (IsS73.ge HI0.out) | refine below_set ?_ GE101.out | refine below_set ?_ GE102.out | refine below_set ?_ GE103.out) | exact HB.out))
       rintro e w60 ⟨rfl, hi, hb, hk⟩
       refine ⟨_, rfl, ?_⟩
       have n0_ := Aside0.mk (Kd.R_mono (Kd.R_keep (IsS73.apart (show IsS73 w0 _ g s0_0 t120 t121 from (q10f65 HI0.out NB0_101.out NB0_102.out NB0_103.out)) (qrf65 HO_104000.out) (by decide)) hk (fun _ h => h.2)) (fun _ h => h.1))
       have n1_ := Aside0.mk (KeepBut.blk hk (g' := gb101) (o := .cells #[.int .i64 a1_0, .int .i64 a1_1, .int .i64 a1_2] 40 (0, 0)) (qbf65 BK101.out) NB101_0.out (by simp))
       have n2_ := Aside0.mk (KeepBut.blk hk (g' := gb102) (o := .cells #[.slice none 0 0, .int .i64 0] 30 (0, 0)) (qbf65 BK102.out) NB102_0.out (by simp))
       have n3_ := Aside0.mk (KeepBut.blk hk (g' := gb103) (o := .cells #[u104000, .int .i64 x104001_1] 30 (0, 0)) (qbf65 BK103.out) NB103_0.out (by simp))
       have n4_ := Aside0.mk (KeepBut.trans (q9f65 HK.out GW101.out GW102.out GW103.out) hk (.inl rfl))
       have n5_ := Aside0.mk (hb)
       have n6_ := Aside0.mk (hi)
       clear HO_104000
       clear BK101
       clear BK102
       clear BK103
       clear HK
       clear HB
       clear HI0
       have HO_104000 := n0_
       have BK101 := n1_
       have BK102 := n2_
       have BK103 := n3_
       have HK := n4_
       have HB := n5_
       have HI0 := n6_
       clear n0_ n1_ n2_ n3_ n4_ n5_ n6_
       (try clear hb)
       (try clear hb2)
       (try clear hk)
       (try clear hi)
       refine hK.out _ _ ⟨(blk_cell BK103.out 0).trans rfl, (blk_cell BK103.out 1).trans rfl⟩ (fun hHeld => ?_)
       clear hK K
       refine norm_ (a' := ?_) ?_ ?_
       rotate_left
       ·
        show Act.put _ (some 44) _ = _
        exact qsf65
       refine pure_ (i := 4) (N := some 45) (v := ?_) (a' := ?_) (rlf65 [5, 4]) rfl rfl (any_of HT_.out (by kernel_rfl)) (fun _ _ _ h => h) (Or.inl ⟨by rfl, ?_⟩) ?_ ?_
       rotate_left
       ·
        intro w'
        go_simp
        with_reducible rfl
       rotate_left
       ·
        exact qsf65
       refine one_ (i := 5) (N := some 46) (rlf65 [6, 3]) rfl rfl (one_of HT_.out (by kernel_rfl)) (by decide) (fun K hK => ?_)
       refine value_ (w1 := ?_) (v := ?_) (by rfl) rfl ?_ ?_
       rotate_left 2
       ·
        go_simp
        constructor
        ·
         rfl
        ·
         rfl
       refine hK.out _ _ ⟨(blk_cell (blk_alloc BK103.out _) 0).trans rfl, (blk_cell (blk_alloc BK103.out _) 1).trans rfl⟩ (fun hHeld => ?_)
       clear hK K
       refine norm_ (a' := ?_) ?_ ?_
       rotate_left
       ·
        show Act.put _ (some 46) _ = _
        exact qsf65
       refine one_ (i := 6) (N := some 47) (rlf65 [7, 2]) rfl rfl (one_of HT_.out (by kernel_rfl)) (by decide) (fun K hK => ?_)
       refine Kd.R_append_step (Kd.int .i64) w.heap.size (by rfl) (.tmp 42) (.tmp 46) 22 3 (.int .i64 0) 8 rfl Try.underlying22 info3 rfl (by decide) (by omega) u104000 x104000_1 (wrap64 (t122 - 1)) [.int .i64 (wrap64 (t122 - 1))] (fun _ => True) (fun _ => False) rfl rfl ?aP (fun _ hk => hk.elim) ?aF ?aO (Below.refl _ _) ?aS ?aL ?_
       (case aP => exact rfl)
       (case aF => exact (fun _ _ => trivial))
       (case aO => exact (qrf65 HO_104000.out))
       (case aS => exact (keep_size (w := w) (g := g) (row := none) (q9f65 HK.out GW101.out GW102.out GW103.out)))
       (case aL => have := LMc56.out; omega)
       intro v126 w61 ho hb hg hat
       rw [← Ny125.out] at ho
       have n0_ := Aside0.mk (blk_grown (g := gb101) (o := .cells #[.int .i64 a1_0, .int .i64 a1_1, .int .i64 a1_2] 40 (0, 0)) (qbf65 BK101.out) hg (Kd.R_ne HO_104000.out BK101.out (by decide)))
       have n1_ := Aside0.mk (blk_grown (g := gb102) (o := .cells #[.slice none 0 0, .int .i64 0] 30 (0, 0)) (qbf65 BK102.out) hg (Kd.R_ne HO_104000.out BK102.out (by decide)))
       have n2_ := Aside0.mk (blk_grown (g := gb103) (o := .cells #[u104000, .int .i64 x104001_1] 30 (0, 0)) (qbf65 BK103.out) hg (Kd.R_ne HO_104000.out BK103.out (by decide)))
       have n3_ := Aside0.mk (IsS73.grown (q10f65 HI0.out NB0_101.out NB0_102.out NB0_103.out) hg (IsS73.own_ne HI0.out HO_104000.out (by decide)))
       have n4_ := Aside0.mk (below_weaken (q11f65 HB.out (IsS73.ge HI0.out) GE101.out GE102.out GE103.out) HL.out hb)
       have n5_ := Aside0.mk (KeepBut.trans (q9f65 HK.out GW101.out GW102.out GW103.out) (KeepBut.of_grown hg g) (Kd.R_base2 HO_104000.out))
       have n6_ := Aside0.mk (ho)
       clear BK101
       clear BK102
       clear BK103
       clear HI0
       clear HB
       clear HK
       clear HO_104000
       have BK101 := n0_
       have BK102 := n1_
       have BK103 := n2_
       have HI0 := n3_
       have HB := n4_
       have HK := n5_
       have HO127 := n6_
       clear n0_ n1_ n2_ n3_ n4_ n5_ n6_
       clear ho hb hg hat
       obtain ⟨Ao62, co62, eo62⟩ := Kd.R_slice HO127.out
       (first | subst eo62 | (injection eo62 with f1_ f2_ f3_; have f4_ := f1_.symm; have f5_ := f3_.symm; clear f1_ f2_ f3_; subst f4_; subst f5_))
       refine hK.out _ _ ⟨(blk_cell BK103.out 0).trans rfl, (blk_cell BK103.out 1).trans rfl⟩ (fun hHeld => ?_)
       clear hK K
       refine norm_ (a' := ?_) ?_ ?_
       rotate_left
       ·
        show Act.put _ (some 47) _ = _
        exact qsf65
       refine pure_ (i := 7) (N := some 48) (v := ?_) (a' := ?_) (rlf65 [8, 1]) rfl rfl (any_of HT_.out (by kernel_rfl)) (fun _ _ _ h => h) (Or.inl ⟨by rfl, ?_⟩) ?_ ?_
       rotate_left
       ·
        intro w'
        go_simp
        with_reducible rfl
       rotate_left
       ·
        exact qsf65
       refine last_ (i := 8) (N := none) (rlf65 [9]) rfl rfl (one_of HT_.out (by kernel_rfl)) (by decide) (fun K hK => ?_)
       have hs63 : w61.cell? ⟨gb103, 0, none⟩ = some (u104000) := (blk_cell BK103.out 0).trans rfl
       have hfs63 := blk_frozen BK103.out 0
       have hns63_0 := NB101_103.out
       have hns63_1 := NB102_103.out
       have hms63_0 := NB103_101.out
       have hms63_1 := NB103_102.out
       refine skip_ (w1 := ?_) (by rfl) rfl ?_ ?_
       rotate_left
       ·
        go_simp
        rfl
       refine hK.out _ _ ?_
       clear hK K
       refine done_ (done_of HT_.out (by kernel_rfl)) ?_
       have hnb64 := NB103_101.out
       have hnc64 := NB101_103.out
       have hnb65 := NB103_102.out
       have hnc65 := NB102_103.out
       have hnb66 := NB103_0.out
       have hnc66 := NB0_103.out
       have hcz67_0 : w61.cell? ⟨gb103, 0, none⟩ = some (u104000) := (blk_cell BK103.out 0).trans rfl
       have hcz67_1 : w61.cell? ⟨gb103, 1, none⟩ = some (.int .i64 x104001_1) := (blk_cell BK103.out 1).trans rfl
       have hfz67_0 := blk_frozen BK103.out 0
       have hfz67_1 := blk_frozen BK103.out 1
       have hnb68 := NB102_101.out
       have hnc68 := NB101_102.out
       have hnb69 := NB102_0.out
       have hnc69 := NB0_102.out
       have hcz70_0 : w61.cell? ⟨gb102, 0, none⟩ = some (.slice none 0 0) := (blk_cell BK102.out 0).trans rfl
       have hcz70_1 : w61.cell? ⟨gb102, 1, none⟩ = some (.int .i64 0) := (blk_cell BK102.out 1).trans rfl
       have hfz70_0 := blk_frozen BK102.out 0
       have hfz70_1 := blk_frozen BK102.out 1
       try go_wp2
       refine bodyPost_ret (results_cell_row rfl _ _ gb102 30 #[.slice Ao62 y125.length co62, .int .i64 x104001_1] (0, 0) _ rfl (by (with_reducible repeat (first | refine blk_drewN ?_ _ | refine blk_drew ?_ | refine blk_alloc ?_ _)); refine blk_put (cs := #[.slice Ao62 y125.length co62, .int .i64 0]) ?_ 1 _ rfl; (with_reducible repeat (first | refine blk_drewN ?_ _ | refine blk_drew ?_ | refine blk_alloc ?_ _)); refine blk_put (cs := #[.slice none 0 0, .int .i64 0]) ?_ 0 _ rfl; (with_reducible repeat (first | refine blk_drewN ?_ _ | refine blk_drew ?_ | refine blk_alloc ?_ _)); refine blk_far ?_ NB102_103.out _; (with_reducible repeat (first | refine blk_drewN ?_ _ | refine blk_drew ?_ | refine blk_alloc ?_ _)); exact BK102.out) Try.underlying30 rfl (by kernel_rfl)) rfl ?_
       exact ⟨_, by first | rfl | (simp [errW_none, errW_some] <;> rfl) | (simp [*, errW_none, errW_some] <;> rfl), by (with_reducible repeat (first | apply Kd.R_alloc | apply Kd.R_drewN | apply Kd.R_drew)); exact Kd.R_mono (Kd.R_far (p := ⟨gb102, 1, none⟩) (Kd.R_far (p := ⟨gb102, 0, none⟩) (Kd.R_far (p := ⟨gb103, 0, none⟩) (Kd.R_types (Kd.R_types HO127.out BK103.out (by decide)) BK102.out (by decide)) (fun _ hk => hk.1.2) (.slice Ao62 y125.length co62)) (fun _ hk => hk.2) (.slice Ao62 y125.length co62)) (fun _ hk => hk.2) (.int .i64 x104001_1)) (fun _ hk => trivial), (q10f65 HI0.out NB0_101.out NB0_102.out NB0_103.out), (q11f65 HB.out (IsS73.ge HI0.out) GE101.out GE102.out GE103.out), (q9f65 HK.out GW101.out GW102.out GW103.out)⟩
      ·
       rw [if_neg c56] at H
       exact absurd H (by simp)
     ·
      rw [if_neg c54] at H
      have c54b0 : (t119 == 0) = false := beq_eq_false_iff_ne.mpr c54
      have c54b1 : (t119 != 0) = true := bne_iff_ne.mpr c54
      by_cases c71 : t119 = 1
      ·
       rw [if_pos c71] at H
       have c71b0 : (t119 == 1) = true := beq_iff_eq.mpr c71
       have c71b1 : (t119 != 1) = false := bne_eq_false_iff_eq.mpr c71
       clear c71
       obtain ⟨y128, hy128⟩ : ∃ y_ : List Int, y_ = (([(-1), 0, 101000, 101001] : List Int)) := ⟨_, rfl⟩
       replace H : ((spec_l1PickInt.f s0_0 t120 t121 y128).bind fun bt131 => (some (x104000_1, bt131.1, bt131.2.1, bt131.2.2))) = some (r1, r2, r3, r4) := by first | (rw [hy128]; with_reducible exact H) | (have H2_ := (Option.bind_some _ _).symm.trans H; rw [hy128]; with_reducible exact H2_) | (have H2_ := (Option.bind_some _ _).symm.trans H; with_reducible exact H2_) | with_reducible exact H | (rw [hy128]; exact H) | exact H
       have Ny128 := Aside0.mk hy128
       clear hy128
       replace H := Option.bind_eq_some_iff.mp H
       obtain ⟨⟨t131, t132, t133⟩, A720, H⟩ := H
       replace H : (some (x104000_1, t131, t132, t133)) = some (r1, r2, r3, r4) := H
       have A72 := Aside0.mk A720
       clear A720
       simp only [Option.some.injEq, Prod.mk.injEq] at H
       obtain ⟨rfl, rfl, rfl, rfl⟩ := H
       go_wp2_with (first | ((with_reducible refine gate_callee (f := 69) rfl ?_); refine goesL_ (some 31) rfl rfl Try.func69 (by kernel_rfl) rfl #[.pointer (some ⟨g, 0, none⟩), .int .i64 10] rfl qff65 ?_; (with_reducible refine (spec_l1Once.calls g s0_0 x1001_1 x1002_1 10 true t117 t118 w0 _ ?side1 ?side2 A51.out).mono ?_); (case side1 => repeat (first | (with_reducible first | exact HI0.out | apply IsS73.alloc | apply IsS73.drewN | apply IsS73.drew | apply IsS73.set_1 | apply IsS73.set_2 | refine IsS73.far ?_ NB0_101.out _ | refine IsS73.far ?_ NB0_102.out _ | refine IsS73.far ?_ NB0_103.out _) | exact HI0.out)); (case side2 => repeat (first | (with_reducible first | exact HB.out | apply below_alloc | apply pw_below_drewN | apply below_drew1 | refine below_set ?_ (IsS73.ge HI0.out) | refine below_set ?_ GE101.out | refine below_set ?_ GE102.out | refine below_set ?_ GE103.out) | exact HB.out)); rintro e w73 ⟨rfl, hi, hb, hk⟩; refine ⟨_, rfl, ?_⟩; have n0_ := Aside0.mk (Kd.R_mono (Kd.R_keep (IsS73.apart (show IsS73 w0 _ g s0_0 x1001_1 x1002_1 from (q10f65 HI0.out NB0_101.out NB0_102.out NB0_103.out)) (qrf65 HO_104000.out) (by decide)) hk (fun _ h => h.2)) (fun _ h => h.1)); have n1_ := Aside0.mk (KeepBut.blk hk (g' := gb101) (o := .cells #[.int .i64 a1_0, .int .i64 a1_1, .int .i64 a1_2] 40 (0, 0)) (qbf65 BK101.out) NB101_0.out (by simp)); have n2_ := Aside0.mk (KeepBut.blk hk (g' := gb102) (o := .cells #[.slice none 0 0, .int .i64 0] 30 (0, 0)) (qbf65 BK102.out) NB102_0.out (by simp)); have n3_ := Aside0.mk (KeepBut.blk hk (g' := gb103) (o := .cells #[u104000, .int .i64 x104001_1] 30 (0, 0)) (qbf65 BK103.out) NB103_0.out (by simp)); have n4_ := Aside0.mk (KeepBut.trans (q9f65 HK.out GW101.out GW102.out GW103.out) hk (.inl rfl)); have n5_ := Aside0.mk (hb); have n6_ := Aside0.mk (hi); clear HO_104000; clear BK101; clear BK102; clear BK103; clear HK; clear HB; clear HI0; have HO_104000 := n0_; have BK101 := n1_; have BK102 := n2_; have BK103 := n3_; have HK := n4_; have HB := n5_; have HI0 := n6_; clear n0_ n1_ n2_ n3_ n4_ n5_ n6_; (try clear hb); (try clear hb2); (try clear hk); (try clear hi)) | ((with_reducible refine gate_callee (f := 67) rfl ?_); refine goesL_ (some 33) rfl rfl Try.func67 (by kernel_rfl) rfl #[.pointer (some ⟨g, 0, none⟩), .int .i64 3] rfl qff65 ?_; (with_reducible refine (spec_l1Below.calls g s0_0 t117 t118 3 t119 t120 t121 w0 _ ?side1 ?side2 A53.out).mono ?_); (case side1 => repeat (first | (with_reducible first | exact HI0.out | apply IsS73.alloc | apply IsS73.drewN | apply IsS73.drew | apply IsS73.set_1 | apply IsS73.set_2 | refine IsS73.far ?_ NB0_101.out _ | refine IsS73.far ?_ NB0_102.out _ | refine IsS73.far ?_ NB0_103.out _) | exact HI0.out)); (case side2 => repeat (first | (with_reducible first | exact HB.out | apply below_alloc | apply pw_below_drewN | apply below_drew1 | refine below_set ?_ (IsS73.ge HI0.out) | refine below_set ?_ GE101.out | refine below_set ?_ GE102.out | refine below_set ?_ GE103.out) | exact HB.out)); rintro e w74 ⟨rfl, hi, hb, hk⟩; refine ⟨_, rfl, ?_⟩; have n0_ := Aside0.mk (Kd.R_mono (Kd.R_keep (IsS73.apart (show IsS73 w0 _ g s0_0 t117 t118 from (q10f65 HI0.out NB0_101.out NB0_102.out NB0_103.out)) (qrf65 HO_104000.out) (by decide)) hk (fun _ h => h.2)) (fun _ h => h.1)); have n1_ := Aside0.mk (KeepBut.blk hk (g' := gb101) (o := .cells #[.int .i64 a1_0, .int .i64 a1_1, .int .i64 a1_2] 40 (0, 0)) (qbf65 BK101.out) NB101_0.out (by simp)); have n2_ := Aside0.mk (KeepBut.blk hk (g' := gb102) (o := .cells #[.slice none 0 0, .int .i64 0] 30 (0, 0)) (qbf65 BK102.out) NB102_0.out (by simp)); have n3_ := Aside0.mk (KeepBut.blk hk (g' := gb103) (o := .cells #[u104000, .int .i64 x104001_1] 30 (0, 0)) (qbf65 BK103.out) NB103_0.out (by simp)); have n4_ := Aside0.mk (KeepBut.trans (q9f65 HK.out GW101.out GW102.out GW103.out) hk (.inl rfl)); have n5_ := Aside0.mk (hb); have n6_ := Aside0.mk (hi); clear HO_104000; clear BK101; clear BK102; clear BK103; clear HK; clear HB; clear HI0; have HO_104000 := n0_; have BK101 := n1_; have BK102 := n2_; have BK103 := n3_; have HK := n4_; have HB := n5_; have HI0 := n6_; clear n0_ n1_ n2_ n3_ n4_ n5_ n6_; (try clear hb); (try clear hb2); (try clear hk); (try clear hi)) | ((with_reducible refine gate_dst (N := 52) rfl ?_); refine Kd.R_lit (Kd.int .i64) _ 3 ?hg (N := 52) ?hd (xs := ([(-1), 0, 101000, 101001] : List Int)) (inner := [.int .i64 (-1), .int .i64 0, .int .i64 101000, .int .i64 101001]) (ok := fun _ => True) (okp := fun _ => True) ?hr ?hp (fun _ hk => hk) trivial (Below.refl _ _) (Nat.le_refl _) (by simp) ?_; (case hd => rfl); (case hg => rfl); (case hr => first | (go_simp; done) | (go_simp; rfl)); (case hp => exact (Reps.one (show Kd.M (Kd.int .i64) _ _ _ (-1) [.int .i64 (-1)] from rfl) (Reps.one (show Kd.M (Kd.int .i64) _ _ _ 0 [.int .i64 0] from rfl) (Reps.one (show Kd.M (Kd.int .i64) _ _ _ 101000 [.int .i64 101000] from rfl) (Reps.one (show Kd.M (Kd.int .i64) _ _ _ 101001 [.int .i64 101001] from rfl) (Reps.none _ _)))))); intro v129 w75 ho76 hb hg_ hnew_; clear hg_ hnew_; (first | rw [← Ny128.out] at ho76 | (simp only [Int.reduceToNat] at ho76; rw [← Ny128.out] at ho76)); have n0_ := Aside0.mk (Kd.R_elder' (qrf65 HO_104000.out) (Kd.R_base ho76) hb); have n1_ := Aside0.mk (Kd.R_lower (Kd.R_new' ho76 (Kd.R_lt (qrf65 HO_104000.out))) (keep_size (w := w) (g := g) (row := none) (q9f65 HK.out GW101.out GW102.out GW103.out))); have n2_ := Aside0.mk (blk_below (g := gb101) (qbf65 BK101.out) hb); have n3_ := Aside0.mk (blk_below (g := gb102) (qbf65 BK102.out) hb); have n4_ := Aside0.mk (blk_below (g := gb103) (qbf65 BK103.out) hb); have n5_ := Aside0.mk (IsS73.below (q10f65 HI0.out NB0_101.out NB0_102.out NB0_103.out) hb); have n6_ := Aside0.mk (KeepBut.trans (q9f65 HK.out GW101.out GW102.out GW103.out) (KeepBut.of_below hb g none) (.inl rfl)); have n7_ := Aside0.mk (below_step (q11f65 HB.out (IsS73.ge HI0.out) GE101.out GE102.out GE103.out) hb); clear HO_104000; clear BK101; clear BK102; clear BK103; clear HI0; clear HK; clear HB; have HO_104000 := n0_; have HO130 := n1_; have BK101 := n2_; have BK102 := n3_; have BK103 := n4_; have HI0 := n5_; have HK := n6_; have HB := n7_; clear n0_ n1_ n2_ n3_ n4_ n5_ n6_ n7_; clear hb ho76; obtain ⟨Ao77, co77, eo77⟩ := Kd.R_slice HO130.out; subst eo77) | ((with_reducible refine gate_callee (f := 66) rfl ?_); refine goesL_ (some 53) rfl rfl Try.func66 (by kernel_rfl) rfl #[.pointer (some ⟨g, 0, none⟩), .slice Ao77 y128.length co77] rfl qff65 ?_; (with_reducible refine (spec_l1PickInt.calls g s0_0 t120 t121 _ _ y128 t131 t132 t133 w0 _ ?side1 ?side2 ?side3 ?side4 ?side5 A72.out).mono ?_); (case side1 => repeat (first | (with_reducible first | exact HI0.out | apply IsS73.alloc | apply IsS73.drewN | apply IsS73.drew | apply IsS73.set_1 | apply IsS73.set_2 | refine IsS73.far ?_ NB0_101.out _ | refine IsS73.far ?_ NB0_102.out _ | refine IsS73.far ?_ NB0_103.out _) | exact HI0.out)); (case side2 => repeat (first | (with_reducible first | exact HB.out | apply below_alloc | apply pw_below_drewN | apply below_drew1 | refine below_set ?_ (IsS73.ge HI0.out) | refine below_set ?_ GE101.out | refine below_set ?_ GE102.out | refine below_set ?_ GE103.out) | exact HB.out)); (case side3 => repeat (first | exact (Kd.R_reads' HO130.out).2.2 | (with_reducible refine Kd.C_alloc ?_ _) | (with_reducible refine Kd.C_drewN ?_ _) | (with_reducible refine Kd.C_drew ?_))); (case side4 => exact (Kd.R_reads' HO130.out).2.1); (case side5 => exact far_slice (IsS73.own_ne HI0.out HO130.out (by decide))); rintro e w78 ⟨rfl, hi, hb, hk⟩; refine ⟨_, rfl, ?_⟩; have n0_ := Aside0.mk (Kd.R_mono (Kd.R_keep (IsS73.apart (show IsS73 w0 _ g s0_0 t120 t121 from (q10f65 HI0.out NB0_101.out NB0_102.out NB0_103.out)) (qrf65 HO_104000.out) (by decide)) hk (fun _ h => h.2)) (fun _ h => h.1)); have n1_ := Aside0.mk (KeepBut.blk hk (g' := gb101) (o := .cells #[.int .i64 a1_0, .int .i64 a1_1, .int .i64 a1_2] 40 (0, 0)) (qbf65 BK101.out) NB101_0.out (by simp)); have n2_ := Aside0.mk (KeepBut.blk hk (g' := gb102) (o := .cells #[.slice none 0 0, .int .i64 0] 30 (0, 0)) (qbf65 BK102.out) NB102_0.out (by simp)); have n3_ := Aside0.mk (KeepBut.blk hk (g' := gb103) (o := .cells #[u104000, .int .i64 x104001_1] 30 (0, 0)) (qbf65 BK103.out) NB103_0.out (by simp)); have n4_ := Aside0.mk (Kd.R_mono (Kd.R_keep (IsS73.apart (show IsS73 w0 _ g s0_0 t120 t121 from (q10f65 HI0.out NB0_101.out NB0_102.out NB0_103.out)) (qrf65 HO130.out) (by decide)) hk (fun _ h => h.2)) (fun _ h => h.1)); have n5_ := Aside0.mk (KeepBut.trans (q9f65 HK.out GW101.out GW102.out GW103.out) hk (.inl rfl)); have n6_ := Aside0.mk (hb); have n7_ := Aside0.mk (hi); clear HO_104000; clear BK101; clear BK102; clear BK103; clear HO130; clear HK; clear HB; clear HI0; have HO_104000 := n0_; have BK101 := n1_; have BK102 := n2_; have BK103 := n3_; have HO130 := n4_; have HK := n5_; have HB := n6_; have HI0 := n7_; clear n0_ n1_ n2_ n3_ n4_ n5_ n6_ n7_; (try clear hb); (try clear hb2); (try clear hk); (try clear hi); have hnb79 := NB103_101.out; have hnc79 := NB101_103.out; have hnb80 := NB103_102.out; have hnc80 := NB102_103.out; have hnb81 := NB103_0.out; have hnc81 := NB0_103.out; have hcz82_0 : w78.cell? ⟨gb103, 0, none⟩ = some (u104000) := (blk_cell BK103.out 0).trans rfl; have hcz82_1 : w78.cell? ⟨gb103, 1, none⟩ = some (.int .i64 x104001_1) := (blk_cell BK103.out 1).trans rfl; have hfz82_0 := blk_frozen BK103.out 0; have hfz82_1 := blk_frozen BK103.out 1; obtain ⟨Ao83, co83, eo83⟩ := Kd.R_slice HO_104000.out; subst eo83; have hnb84 := NB102_101.out; have hnc84 := NB101_102.out; have hnb85 := NB102_0.out; have hnc85 := NB0_102.out; have hcz86_0 : w78.cell? ⟨gb102, 0, none⟩ = some (.slice none 0 0) := (blk_cell BK102.out 0).trans rfl; have hcz86_1 : w78.cell? ⟨gb102, 1, none⟩ = some (.int .i64 0) := (blk_cell BK102.out 1).trans rfl; have hfz86_0 := blk_frozen BK102.out 0; have hfz86_1 := blk_frozen BK102.out 1))
       refine bodyPost_ret (results_cell_row rfl _ _ gb102 30 #[.slice Ao83 x104000_1.length co83, .int .i64 t131] (0, 0) _ rfl (by (with_reducible repeat (first | refine blk_drewN ?_ _ | refine blk_drew ?_ | refine blk_alloc ?_ _)); refine blk_put (cs := #[.slice Ao83 x104000_1.length co83, .int .i64 0]) ?_ 1 _ rfl; (with_reducible repeat (first | refine blk_drewN ?_ _ | refine blk_drew ?_ | refine blk_alloc ?_ _)); refine blk_put (cs := #[.slice none 0 0, .int .i64 0]) ?_ 0 _ rfl; (with_reducible repeat (first | refine blk_drewN ?_ _ | refine blk_drew ?_ | refine blk_alloc ?_ _)); refine blk_far ?_ NB102_103.out _; (with_reducible repeat (first | refine blk_drewN ?_ _ | refine blk_drew ?_ | refine blk_alloc ?_ _)); exact BK102.out) Try.underlying30 rfl (by kernel_rfl)) rfl ?_
       exact ⟨_, by first | rfl | (simp [errW_none, errW_some] <;> rfl) | (simp [*, errW_none, errW_some] <;> rfl), by (with_reducible repeat (first | apply Kd.R_alloc | apply Kd.R_drewN | apply Kd.R_drew)); exact Kd.R_mono (Kd.R_far (p := ⟨gb102, 1, none⟩) (Kd.R_far (p := ⟨gb102, 0, none⟩) (Kd.R_far (p := ⟨gb103, 1, none⟩) (Kd.R_types (Kd.R_types HO_104000.out BK103.out (by decide)) BK102.out (by decide)) (fun _ hk => hk.1.2) (.int .i64 t131)) (fun _ hk => hk.2) (.slice Ao83 x104000_1.length co83)) (fun _ hk => hk.2) (.int .i64 t131)) (fun _ hk => trivial), (q10f65 HI0.out NB0_101.out NB0_102.out NB0_103.out), (q11f65 HB.out (IsS73.ge HI0.out) GE101.out GE102.out GE103.out), (q9f65 HK.out GW101.out GW102.out GW103.out)⟩
      ·
       rw [if_neg c71] at H
       have c71b0 : (t119 == 1) = false := beq_eq_false_iff_ne.mpr c71
       have c71b1 : (t119 != 1) = true := bne_iff_ne.mpr c71
       obtain ⟨y134, hy134⟩ : ∃ y_ : List Int, y_ = (([5, 5, 5, 5] : List Int)) := ⟨_, rfl⟩
       replace H : (if x104000_1.length + y134.length < 17592186044416 then (some ((x104000_1 ++ y134), x104001_1, t120, t121)) else (none)) = some (r1, r2, r3, r4) := by first | (rw [hy134]; with_reducible exact H) | (have H2_ := (Option.bind_some _ _).symm.trans H; rw [hy134]; with_reducible exact H2_) | (have H2_ := (Option.bind_some _ _).symm.trans H; with_reducible exact H2_) | with_reducible exact H | (rw [hy134]; exact H) | exact H
       have Ny134 := Aside0.mk hy134
       clear hy134
       by_cases c87 : x104000_1.length + y134.length < 17592186044416
       ·
        rw [if_pos c87] at H
        have LMc87 := Aside0.mk c87
        clear c87
        obtain ⟨y137, hy137⟩ : ∃ y_ : List Int, y_ = (x104000_1 ++ y134) := ⟨_, rfl⟩
        replace H : (some (y137, x104001_1, t120, t121)) = some (r1, r2, r3, r4) := by first | (rw [hy137]; with_reducible exact H) | (have H2_ := (Option.bind_some _ _).symm.trans H; rw [hy137]; with_reducible exact H2_) | (have H2_ := (Option.bind_some _ _).symm.trans H; with_reducible exact H2_) | with_reducible exact H | (rw [hy137]; exact H) | exact H
        have Ny137 := Aside0.mk hy137
        clear hy137
        simp only [Option.some.injEq, Prod.mk.injEq] at H
        obtain ⟨rfl, rfl, rfl, rfl⟩ := H
        go_wp2_with (first | ((with_reducible refine gate_callee (f := 69) rfl ?_); refine goesL_ (some 31) rfl rfl Try.func69 (by kernel_rfl) rfl #[.pointer (some ⟨g, 0, none⟩), .int .i64 10] rfl qff65 ?_; (with_reducible refine (spec_l1Once.calls g s0_0 x1001_1 x1002_1 10 true t117 t118 w0 _ ?side1 ?side2 A51.out).mono ?_); (case side1 => repeat (first | (with_reducible first | exact HI0.out | apply IsS73.alloc | apply IsS73.drewN | apply IsS73.drew | apply IsS73.set_1 | apply IsS73.set_2 | refine IsS73.far ?_ NB0_101.out _ | refine IsS73.far ?_ NB0_102.out _ | refine IsS73.far ?_ NB0_103.out _) | exact HI0.out)); (case side2 => repeat (first | (with_reducible first | exact HB.out | apply below_alloc | apply pw_below_drewN | apply below_drew1 | refine below_set ?_ (IsS73.ge HI0.out) | refine below_set ?_ GE101.out | refine below_set ?_ GE102.out | refine below_set ?_ GE103.out) | exact HB.out)); rintro e w88 ⟨rfl, hi, hb, hk⟩; refine ⟨_, rfl, ?_⟩; have n0_ := Aside0.mk (Kd.R_mono (Kd.R_keep (IsS73.apart (show IsS73 w0 _ g s0_0 x1001_1 x1002_1 from (q10f65 HI0.out NB0_101.out NB0_102.out NB0_103.out)) (qrf65 HO_104000.out) (by decide)) hk (fun _ h => h.2)) (fun _ h => h.1)); have n1_ := Aside0.mk (KeepBut.blk hk (g' := gb101) (o := .cells #[.int .i64 a1_0, .int .i64 a1_1, .int .i64 a1_2] 40 (0, 0)) (qbf65 BK101.out) NB101_0.out (by simp)); have n2_ := Aside0.mk (KeepBut.blk hk (g' := gb102) (o := .cells #[.slice none 0 0, .int .i64 0] 30 (0, 0)) (qbf65 BK102.out) NB102_0.out (by simp)); have n3_ := Aside0.mk (KeepBut.blk hk (g' := gb103) (o := .cells #[u104000, .int .i64 x104001_1] 30 (0, 0)) (qbf65 BK103.out) NB103_0.out (by simp)); have n4_ := Aside0.mk (KeepBut.trans (q9f65 HK.out GW101.out GW102.out GW103.out) hk (.inl rfl)); have n5_ := Aside0.mk (hb); have n6_ := Aside0.mk (hi); clear HO_104000; clear BK101; clear BK102; clear BK103; clear HK; clear HB; clear HI0; have HO_104000 := n0_; have BK101 := n1_; have BK102 := n2_; have BK103 := n3_; have HK := n4_; have HB := n5_; have HI0 := n6_; clear n0_ n1_ n2_ n3_ n4_ n5_ n6_; (try clear hb); (try clear hb2); (try clear hk); (try clear hi)) | ((with_reducible refine gate_callee (f := 67) rfl ?_); refine goesL_ (some 33) rfl rfl Try.func67 (by kernel_rfl) rfl #[.pointer (some ⟨g, 0, none⟩), .int .i64 3] rfl qff65 ?_; (with_reducible refine (spec_l1Below.calls g s0_0 t117 t118 3 t119 t120 t121 w0 _ ?side1 ?side2 A53.out).mono ?_); (case side1 => repeat (first | (with_reducible first | exact HI0.out | apply IsS73.alloc | apply IsS73.drewN | apply IsS73.drew | apply IsS73.set_1 | apply IsS73.set_2 | refine IsS73.far ?_ NB0_101.out _ | refine IsS73.far ?_ NB0_102.out _ | refine IsS73.far ?_ NB0_103.out _) | exact HI0.out)); (case side2 => repeat (first | (with_reducible first | exact HB.out | apply below_alloc | apply pw_below_drewN | apply below_drew1 | refine below_set ?_ (IsS73.ge HI0.out) | refine below_set ?_ GE101.out | refine below_set ?_ GE102.out | refine below_set ?_ GE103.out) | exact HB.out)); rintro e w89 ⟨rfl, hi, hb, hk⟩; refine ⟨_, rfl, ?_⟩; have n0_ := Aside0.mk (Kd.R_mono (Kd.R_keep (IsS73.apart (show IsS73 w0 _ g s0_0 t117 t118 from (q10f65 HI0.out NB0_101.out NB0_102.out NB0_103.out)) (qrf65 HO_104000.out) (by decide)) hk (fun _ h => h.2)) (fun _ h => h.1)); have n1_ := Aside0.mk (KeepBut.blk hk (g' := gb101) (o := .cells #[.int .i64 a1_0, .int .i64 a1_1, .int .i64 a1_2] 40 (0, 0)) (qbf65 BK101.out) NB101_0.out (by simp)); have n2_ := Aside0.mk (KeepBut.blk hk (g' := gb102) (o := .cells #[.slice none 0 0, .int .i64 0] 30 (0, 0)) (qbf65 BK102.out) NB102_0.out (by simp)); have n3_ := Aside0.mk (KeepBut.blk hk (g' := gb103) (o := .cells #[u104000, .int .i64 x104001_1] 30 (0, 0)) (qbf65 BK103.out) NB103_0.out (by simp)); have n4_ := Aside0.mk (KeepBut.trans (q9f65 HK.out GW101.out GW102.out GW103.out) hk (.inl rfl)); have n5_ := Aside0.mk (hb); have n6_ := Aside0.mk (hi); clear HO_104000; clear BK101; clear BK102; clear BK103; clear HK; clear HB; clear HI0; have HO_104000 := n0_; have BK101 := n1_; have BK102 := n2_; have BK103 := n3_; have HK := n4_; have HB := n5_; have HI0 := n6_; clear n0_ n1_ n2_ n3_ n4_ n5_ n6_; (try clear hb); (try clear hb2); (try clear hk); (try clear hi); have hnb90 := NB103_101.out; have hnc90 := NB101_103.out; have hnb91 := NB103_102.out; have hnc91 := NB102_103.out; have hnb92 := NB103_0.out; have hnc92 := NB0_103.out; have hcz93_0 : w89.cell? ⟨gb103, 0, none⟩ = some (u104000) := (blk_cell BK103.out 0).trans rfl; have hcz93_1 : w89.cell? ⟨gb103, 1, none⟩ = some (.int .i64 x104001_1) := (blk_cell BK103.out 1).trans rfl; have hfz93_0 := blk_frozen BK103.out 0; have hfz93_1 := blk_frozen BK103.out 1) | ((with_reducible refine gate_dst (N := 36) rfl ?_); refine Kd.R_lit (Kd.int .i64) _ 3 ?hg (N := 36) ?hd (xs := ([5, 5, 5, 5] : List Int)) (inner := [.int .i64 5, .int .i64 5, .int .i64 5, .int .i64 5]) (ok := fun _ => True) (okp := fun _ => True) ?hr ?hp (fun _ hk => hk) trivial (Below.refl _ _) (Nat.le_refl _) (by simp) ?_; (case hd => rfl); (case hg => rfl); (case hr => first | (go_simp; done) | (go_simp; rfl)); (case hp => exact (Reps.one (show Kd.M (Kd.int .i64) _ _ _ 5 [.int .i64 5] from rfl) (Reps.one (show Kd.M (Kd.int .i64) _ _ _ 5 [.int .i64 5] from rfl) (Reps.one (show Kd.M (Kd.int .i64) _ _ _ 5 [.int .i64 5] from rfl) (Reps.one (show Kd.M (Kd.int .i64) _ _ _ 5 [.int .i64 5] from rfl) (Reps.none _ _)))))); intro v135 w94 ho95 hb hg_ hnew_; clear hg_ hnew_; (first | rw [← Ny134.out] at ho95 | (simp only [Int.reduceToNat] at ho95; rw [← Ny134.out] at ho95)); have n0_ := Aside0.mk (Kd.R_elder' (qrf65 HO_104000.out) (Kd.R_base ho95) hb); have n1_ := Aside0.mk (Kd.R_lower (Kd.R_new' ho95 (Kd.R_lt (qrf65 HO_104000.out))) (keep_size (w := w) (g := g) (row := none) (q9f65 HK.out GW101.out GW102.out GW103.out))); have n2_ := Aside0.mk (blk_below (g := gb101) (qbf65 BK101.out) hb); have n3_ := Aside0.mk (blk_below (g := gb102) (qbf65 BK102.out) hb); have n4_ := Aside0.mk (blk_below (g := gb103) (qbf65 BK103.out) hb); have n5_ := Aside0.mk (IsS73.below (q10f65 HI0.out NB0_101.out NB0_102.out NB0_103.out) hb); have n6_ := Aside0.mk (KeepBut.trans (q9f65 HK.out GW101.out GW102.out GW103.out) (KeepBut.of_below hb g none) (.inl rfl)); have n7_ := Aside0.mk (below_step (q11f65 HB.out (IsS73.ge HI0.out) GE101.out GE102.out GE103.out) hb); clear HO_104000; clear BK101; clear BK102; clear BK103; clear HI0; clear HK; clear HB; have HO_104000 := n0_; have HO136 := n1_; have BK101 := n2_; have BK102 := n3_; have BK103 := n4_; have HI0 := n5_; have HK := n6_; have HB := n7_; clear n0_ n1_ n2_ n3_ n4_ n5_ n6_ n7_; clear hb ho95; obtain ⟨Ao97, co97, eo97⟩ := Kd.R_slice HO136.out; subst eo97) | ((with_reducible refine gate_builtin (b := .append) (xs := #[.tmp 35, .tmp 36]) rfl ?_); at_builtin; refine Kd.R_append_rows (Kd.int .i64) w.heap.size rfl (.tmp 35) (.tmp 36) 22 3 (.int .i64 0) 8 rfl Try.underlying22 info3 rfl (by decide) (by omega) u104000 x104000_1 y134 _ _ _ (fun k_ => some k_ ≠ (.slice Ao97 y134.length co97 : Value).ownBlock) (fun _ => False) rfl rfl ?aO ?aR (fun _ _ h => h) (fun _ h => h.elim) ?aF (Below.refl _ _) ?aS ?aL ?_; (case aR => repeat (first | exact (Kd.R_reads' HO136.out).2.2 | (with_reducible refine Kd.C_alloc ?_ _) | (with_reducible refine Kd.C_drewN ?_ _) | (with_reducible refine Kd.C_drew ?_))); (case aF => exact (fun k_ hk => Kd.fresh' (Kd.R_lt (qrf65 HO136.out)) k_ hk)); (case aO => exact (by (with_reducible repeat (first | apply Kd.R_alloc | apply Kd.R_drewN | apply Kd.R_drew)); exact Kd.R_mono HO_104000.out (fun _ hk => hk.2))); (case aS => exact (keep_size (w := w) (g := g) (row := none) (q9f65 HK.out GW101.out GW102.out GW103.out))); (case aL => have := LMc87.out; omega); intro v138 w96 ho hb hg hat; rw [← Ny137.out] at ho; have n0_ := Aside0.mk (blk_grown (g := gb101) (o := .cells #[.int .i64 a1_0, .int .i64 a1_1, .int .i64 a1_2] 40 (0, 0)) (qbf65 BK101.out) hg (Kd.R_ne HO_104000.out BK101.out (by decide))); have n1_ := Aside0.mk (blk_grown (g := gb102) (o := .cells #[.slice none 0 0, .int .i64 0] 30 (0, 0)) (qbf65 BK102.out) hg (Kd.R_ne HO_104000.out BK102.out (by decide))); have n2_ := Aside0.mk (blk_grown (g := gb103) (o := .cells #[u104000, .int .i64 x104001_1] 30 (0, 0)) (qbf65 BK103.out) hg (Kd.R_ne HO_104000.out BK103.out (by decide))); have n3_ := Aside0.mk (IsS73.grown (q10f65 HI0.out NB0_101.out NB0_102.out NB0_103.out) hg (IsS73.own_ne HI0.out HO_104000.out (by decide))); have n4_ := Aside0.mk (Kd.R_after (ok := (fun _ => True)) (qrf65 HO136.out) hg hat); have n5_ := Aside0.mk (below_weaken (q11f65 HB.out (IsS73.ge HI0.out) GE101.out GE102.out GE103.out) HL.out hb); have n6_ := Aside0.mk (KeepBut.trans (q9f65 HK.out GW101.out GW102.out GW103.out) (KeepBut.of_grown hg g) (Kd.R_base2 HO_104000.out)); have n7_ := Aside0.mk (ho); clear BK101; clear BK102; clear BK103; clear HI0; clear HO136; clear HB; clear HK; clear HO_104000; have BK101 := n0_; have BK102 := n1_; have BK103 := n2_; have HI0 := n3_; have HO136 := n4_; have HB := n5_; have HK := n6_; have HO139 := n7_; clear n0_ n1_ n2_ n3_ n4_ n5_ n6_ n7_; clear ho hb hg hat; obtain ⟨Ao98, co98, eo98⟩ := Kd.R_slice HO139.out; subst eo98; have hcz99_0 : w96.cell? ⟨gb103, 0, none⟩ = some (u104000) := (blk_cell BK103.out 0).trans rfl; have hcz99_1 : w96.cell? ⟨gb103, 1, none⟩ = some (.int .i64 x104001_1) := (blk_cell BK103.out 1).trans rfl; have hfz99_0 := blk_frozen BK103.out 0; have hfz99_1 := blk_frozen BK103.out 1; have hnb100 := NB102_101.out; have hnc100 := NB101_102.out; have hnb101 := NB102_0.out; have hnc101 := NB0_102.out; have hcz102_0 : w96.cell? ⟨gb102, 0, none⟩ = some (.slice none 0 0) := (blk_cell BK102.out 0).trans rfl; have hcz102_1 : w96.cell? ⟨gb102, 1, none⟩ = some (.int .i64 0) := (blk_cell BK102.out 1).trans rfl; have hfz102_0 := blk_frozen BK102.out 0; have hfz102_1 := blk_frozen BK102.out 1))
        refine bodyPost_ret (results_cell_row rfl _ _ gb102 30 #[.slice Ao98 y137.length co98, .int .i64 x104001_1] (0, 0) _ rfl (by (with_reducible repeat (first | refine blk_drewN ?_ _ | refine blk_drew ?_ | refine blk_alloc ?_ _)); refine blk_put (cs := #[.slice Ao98 y137.length co98, .int .i64 0]) ?_ 1 _ rfl; (with_reducible repeat (first | refine blk_drewN ?_ _ | refine blk_drew ?_ | refine blk_alloc ?_ _)); refine blk_put (cs := #[.slice none 0 0, .int .i64 0]) ?_ 0 _ rfl; (with_reducible repeat (first | refine blk_drewN ?_ _ | refine blk_drew ?_ | refine blk_alloc ?_ _)); refine blk_far ?_ NB102_103.out _; (with_reducible repeat (first | refine blk_drewN ?_ _ | refine blk_drew ?_ | refine blk_alloc ?_ _)); exact BK102.out) Try.underlying30 rfl (by kernel_rfl)) rfl ?_
        exact ⟨_, by first | rfl | (simp [errW_none, errW_some] <;> rfl) | (simp [*, errW_none, errW_some] <;> rfl), by (with_reducible repeat (first | apply Kd.R_alloc | apply Kd.R_drewN | apply Kd.R_drew)); exact Kd.R_mono (Kd.R_far (p := ⟨gb102, 1, none⟩) (Kd.R_far (p := ⟨gb102, 0, none⟩) (Kd.R_far (p := ⟨gb103, 0, none⟩) (Kd.R_types (Kd.R_types HO139.out BK103.out (by decide)) BK102.out (by decide)) (fun _ hk => hk.1.2) (.slice Ao98 y137.length co98)) (fun _ hk => hk.2) (.slice Ao98 y137.length co98)) (fun _ hk => hk.2) (.int .i64 x104001_1)) (fun _ hk => trivial), (q10f65 HI0.out NB0_101.out NB0_102.out NB0_103.out), (q11f65 HB.out (IsS73.ge HI0.out) GE101.out GE102.out GE103.out), (q9f65 HK.out GW101.out GW102.out GW103.out)⟩
       ·
        rw [if_neg c87] at H
        exact absurd H (by simp)
    ·
     replace c52 := Bool.eq_false_iff.mpr c52
     subst c52
     have H1 : (some (x104000_1, x104001_1, t117, t118)) = some (r1, r2, r3, r4) := by rw [if_neg (show ¬ (false = true) by decide)] at H; exact H
     clear H
     have H := H1
     clear H1
     simp only [Option.some.injEq, Prod.mk.injEq] at H
     obtain ⟨rfl, rfl, rfl, rfl⟩ := H
     go_wp2_with (first | ((with_reducible refine gate_callee (f := 69) rfl ?_); refine goesL_ (some 31) rfl rfl Try.func69 (by kernel_rfl) rfl #[.pointer (some ⟨g, 0, none⟩), .int .i64 10] rfl qff65 ?_; (with_reducible refine (spec_l1Once.calls g s0_0 x1001_1 x1002_1 10 false t117 t118 w0 _ ?side1 ?side2 A51.out).mono ?_); (case side1 => repeat (first | (with_reducible first | exact HI0.out | apply IsS73.alloc | apply IsS73.drewN | apply IsS73.drew | apply IsS73.set_1 | apply IsS73.set_2 | refine IsS73.far ?_ NB0_101.out _ | refine IsS73.far ?_ NB0_102.out _ | refine IsS73.far ?_ NB0_103.out _) | exact HI0.out)); (case side2 => repeat (first | (with_reducible first | exact HB.out | apply below_alloc | apply pw_below_drewN | apply below_drew1 | refine below_set ?_ (IsS73.ge HI0.out) | refine below_set ?_ GE101.out | refine below_set ?_ GE102.out | refine below_set ?_ GE103.out) | exact HB.out)); rintro e w103 ⟨rfl, hi, hb, hk⟩; refine ⟨_, rfl, ?_⟩; have n0_ := Aside0.mk (Kd.R_mono (Kd.R_keep (IsS73.apart (show IsS73 w0 _ g s0_0 x1001_1 x1002_1 from (q10f65 HI0.out NB0_101.out NB0_102.out NB0_103.out)) (qrf65 HO_104000.out) (by decide)) hk (fun _ h => h.2)) (fun _ h => h.1)); have n1_ := Aside0.mk (KeepBut.blk hk (g' := gb101) (o := .cells #[.int .i64 a1_0, .int .i64 a1_1, .int .i64 a1_2] 40 (0, 0)) (qbf65 BK101.out) NB101_0.out (by simp)); have n2_ := Aside0.mk (KeepBut.blk hk (g' := gb102) (o := .cells #[.slice none 0 0, .int .i64 0] 30 (0, 0)) (qbf65 BK102.out) NB102_0.out (by simp)); have n3_ := Aside0.mk (KeepBut.blk hk (g' := gb103) (o := .cells #[u104000, .int .i64 x104001_1] 30 (0, 0)) (qbf65 BK103.out) NB103_0.out (by simp)); have n4_ := Aside0.mk (KeepBut.trans (q9f65 HK.out GW101.out GW102.out GW103.out) hk (.inl rfl)); have n5_ := Aside0.mk (hb); have n6_ := Aside0.mk (hi); clear HO_104000; clear BK101; clear BK102; clear BK103; clear HK; clear HB; clear HI0; have HO_104000 := n0_; have BK101 := n1_; have BK102 := n2_; have BK103 := n3_; have HK := n4_; have HB := n5_; have HI0 := n6_; clear n0_ n1_ n2_ n3_ n4_ n5_ n6_; (try clear hb); (try clear hb2); (try clear hk); (try clear hi); have hnb104 := NB103_101.out; have hnc104 := NB101_103.out; have hnb105 := NB103_102.out; have hnc105 := NB102_103.out; have hnb106 := NB103_0.out; have hnc106 := NB0_103.out; have hcz107_0 : w103.cell? ⟨gb103, 0, none⟩ = some (u104000) := (blk_cell BK103.out 0).trans rfl; have hcz107_1 : w103.cell? ⟨gb103, 1, none⟩ = some (.int .i64 x104001_1) := (blk_cell BK103.out 1).trans rfl; have hfz107_0 := blk_frozen BK103.out 0; have hfz107_1 := blk_frozen BK103.out 1; obtain ⟨Ao108, co108, eo108⟩ := Kd.R_slice HO_104000.out; subst eo108; have hnb109 := NB102_101.out; have hnc109 := NB101_102.out; have hnb110 := NB102_0.out; have hnc110 := NB0_102.out; have hcz111_0 : w103.cell? ⟨gb102, 0, none⟩ = some (.slice none 0 0) := (blk_cell BK102.out 0).trans rfl; have hcz111_1 : w103.cell? ⟨gb102, 1, none⟩ = some (.int .i64 0) := (blk_cell BK102.out 1).trans rfl; have hfz111_0 := blk_frozen BK102.out 0; have hfz111_1 := blk_frozen BK102.out 1))
     refine bodyPost_ret (results_cell_row rfl _ _ gb102 30 #[.slice Ao108 x104000_1.length co108, .int .i64 x104001_1] (0, 0) _ rfl (by (with_reducible repeat (first | refine blk_drewN ?_ _ | refine blk_drew ?_ | refine blk_alloc ?_ _)); refine blk_put (cs := #[.slice Ao108 x104000_1.length co108, .int .i64 0]) ?_ 1 _ rfl; (with_reducible repeat (first | refine blk_drewN ?_ _ | refine blk_drew ?_ | refine blk_alloc ?_ _)); refine blk_put (cs := #[.slice none 0 0, .int .i64 0]) ?_ 0 _ rfl; (with_reducible repeat (first | refine blk_drewN ?_ _ | refine blk_drew ?_ | refine blk_alloc ?_ _)); exact BK102.out) Try.underlying30 rfl (by kernel_rfl)) rfl ?_
     exact ⟨_, by first | rfl | (simp [errW_none, errW_some] <;> rfl) | (simp [*, errW_none, errW_some] <;> rfl), by (with_reducible repeat (first | apply Kd.R_alloc | apply Kd.R_drewN | apply Kd.R_drew)); exact Kd.R_mono (Kd.R_far (p := ⟨gb102, 1, none⟩) (Kd.R_far (p := ⟨gb102, 0, none⟩) (Kd.R_types HO_104000.out BK102.out (by decide)) (fun _ hk => hk.2) (.slice Ao108 x104000_1.length co108)) (fun _ hk => hk.2) (.int .i64 x104001_1)) (fun _ hk => trivial), (q10f65 HI0.out NB0_101.out NB0_102.out NB0_103.out), (q11f65 HB.out (IsS73.ge HI0.out) GE101.out GE102.out GE103.out), (q9f65 HK.out GW101.out GW102.out GW103.out)⟩

end Go.Proofs.Ytfkecldlhngjhaa.XA

namespace Go.Proofs.Ytfkecldlhngjhaa.XA
open Go.RowKit Go.Proofs.YtfkecldlhngjhaaW.PrintWords Go.Proofs.YtfkecldlhngjhaaW.PrintLast Go.Proofs.YtfkecldlhngjhaaW.PrintMore
attribute [local go_sem] max2_int min2_int max_two min_two max_three min_three max_four min_four   -- for this text's walks alone
set_option linter.unusedVariables false
set_option linter.unusedSimpArgs false

/-! ### spec_DrawLockFail: function 45 -/
theorem qbf45 {P Q : Prop} (h : P) (f : P → Q := by intro h_; (with_reducible repeat (first | refine blk_drewN ?_ _ | refine blk_drew ?_ | refine blk_alloc ?_ _)); exact h_) : Q := f h
theorem qrf45 {P Q : Prop} (h : P) (f : P → Q := by intro h_; (with_reducible repeat (first | apply Kd.R_alloc | apply Kd.R_drewN | apply Kd.R_drew)); exact h_) : Q := f h
theorem qff45 {P : Prop} (f : P := by (try simp only [List.map_toArray, List.map_cons, List.map_nil]); first | done | rfl | (simp only [List.length_drop, List.length_take]; rfl)) : P := f
theorem qsf45 {P : Prop} (f : P := by simp only [Act.put, List.setIfInBounds_toArray, List.set_cons_zero, List.set_cons_succ, i64_w, i32_w]; rfl) : P := f
def rlf45g : Bool → List Nat → List Bool
 | _, [] => []
 | b, n :: ns => List.replicate n b ++ rlf45g (!b) ns
abbrev rlf45 (ns : List Nat) : Array Bool := (rlf45g true ns).toArray
theorem qw0f45 {P Q : Prop} (h : P) (f : P → Q := by intro h_; repeat (first | (with_reducible first | exact h_ | apply below_alloc | apply pw_below_drewN | apply below_drew1) | exact h_)) : Q := f h
theorem qw1f45 {P Q P0 : Prop} (h : P) (h0 : P0) (f : P → P0 → Q := by intro h_ g0_; repeat (first | (with_reducible first | exact h_ | apply below_alloc | apply pw_below_drewN | apply below_drew1 | refine below_set ?_ g0_) | exact h_)) : Q := f h h0
theorem q0f45 {P Q P0 P1 : Prop} (h : P) (h0 : P0) (h1 : P1) (f : P → P0 → P1 → Q := by intro h_ g1_ g2_; repeat (first | (with_reducible first | exact h_ | apply IsS73.alloc | apply IsS73.drewN | apply IsS73.drew | apply IsS73.set_1 | apply IsS73.set_2 | refine IsS73.far ?_ g1_ _ | refine IsS73.far ?_ g2_ _) | exact h_)) : Q := f h h0 h1
theorem q1f45 {P Q P0 P1 P2 : Prop} (h : P) (h0 : P0) (h1 : P1) (h2 : P2) (f : P → P0 → P1 → P2 → Q := by intro h_ g1_ g2_ g3_; repeat (first | (with_reducible first | exact h_ | apply below_alloc | apply pw_below_drewN | apply below_drew1 | refine below_set ?_ g1_ | refine below_set ?_ g2_ | refine below_set ?_ g3_) | exact h_)) : Q := f h h0 h1 h2
theorem q2f45 {P Q P0 P1 P2 P3 : Prop} (h : P) (h0 : P0) (h1 : P1) (h2 : P2) (h3 : P3) (f : P → P0 → P1 → P2 → P3 → Q := by intro h_ g1_ g2_ g3_ g4_; repeat (first | (with_reducible first | exact h_ | apply below_alloc | apply pw_below_drewN | apply below_drew1 | refine below_set ?_ g1_ | refine below_set ?_ g2_ | refine below_set ?_ g3_ | refine below_set ?_ g4_) | exact h_)) : Q := f h h0 h1 h2 h3
theorem q3f45 {P Q P0 P1 P2 : Prop} (h : P) (h0 : P0) (h1 : P1) (h2 : P2) (f : P → P0 → P1 → P2 → Q := by intro h_ g1_ g2_ g3_; repeat (first | (with_reducible first | exact h_ | apply IsS73.alloc | apply IsS73.drewN | apply IsS73.drew | apply IsS73.set_1 | apply IsS73.set_2 | refine IsS73.far ?_ g1_ _ | refine IsS73.far ?_ g2_ _ | refine IsS73.far ?_ g3_ _) | exact h_)) : Q := f h h0 h1 h2
theorem q4f45 {P Q P0 P1 P2 P3 P4 : Prop} (h : P) (h0 : P0) (h1 : P1) (h2 : P2) (h3 : P3) (h4 : P4) (f : P → P0 → P1 → P2 → P3 → P4 → Q := by intro h_ g1_ g2_ g3_ g4_ g5_; repeat (first | (with_reducible first | exact h_ | apply below_alloc | apply pw_below_drewN | apply below_drew1 | refine below_set ?_ g1_ | refine below_set ?_ g2_ | refine below_set ?_ g3_ | refine below_set ?_ g4_ | refine below_set ?_ g5_) | exact h_)) : Q := f h h0 h1 h2 h3 h4
theorem q5f45 {P Q P0 P1 P2 P3 : Prop} (h : P) (h0 : P0) (h1 : P1) (h2 : P2) (h3 : P3) (f : P → P0 → P1 → P2 → P3 → Q := by intro h_ g1_ g2_ g3_ g4_; repeat (first | (with_reducible first | exact h_ | apply IsS73.alloc | apply IsS73.drewN | apply IsS73.drew | apply IsS73.set_1 | apply IsS73.set_2 | refine IsS73.far ?_ g1_ _ | refine IsS73.far ?_ g2_ _ | refine IsS73.far ?_ g3_ _ | refine IsS73.far ?_ g4_ _) | exact h_)) : Q := f h h0 h1 h2 h3
theorem qlef45 {a b n : Nat} (hg : b = n) (h : a ≤ n) : a ≤ b := hg ▸ h
def spec_DrawLockFail.f (k : Nat) (l0 : List Int) : Option (Int × Int × Int × List Int × Int × Int) := (spec_l1New.f k l0).bind fun bt103 => ((spec_l21Rules.f bt103.1 bt103.2.1 bt103.2.2).bind fun bt107 => ((spec_l21Lock.f k bt103.1 bt107.2.2.2.1 bt107.2.2.2.2 bt107.1 bt107.2.1 bt107.2.2.1).bind fun bt113 => ((spec_l1Below.f bt103.1 bt113.2.2.1 bt113.2.2.2 70).bind fun bt120 => ((spec_l1PickInt.f bt103.1 bt120.2.1 bt120.2.2 (([bt120.1, 40, 60, (-1), 100000, 100001] : List Int))).bind fun bt126 => (some (bt107.1, bt107.2.1, bt107.2.2.1, bt113.1, bt113.2.1, bt126.1))))))
theorem spec_DrawLockFail.mono : ∀ a0 k, LeO (spec_DrawLockFail.f k a0) (spec_DrawLockFail.f (k + 1) a0) := by
 intro a0 k
 unfold spec_DrawLockFail.f
 repeat' first
   | (with_reducible exact spec_l1New.mono _ _)
   | (with_reducible exact spec_l21Lock.mono _ _ _ _ _ _ _)
   | (with_reducible exact LeO.refl _)
   | (with_reducible exact LeO.none _)
   | (with_reducible refine LeO.ite ?_ ?_)
   | (with_reducible refine LeO.bind ?_ (fun _ => ?_))
   | exact spec_l1New.mono _ _
   | exact spec_l21Lock.mono _ _ _ _ _ _ _
   | exact LeO.none _
   | refine LeO.ite ?_ ?_
   | refine LeO.bind ?_ (fun _ => ?_)
def spec_DrawLockFail.T4 : Bool × List (List Nat × List Nat) := (true, [([], []), ([], []), ([], []), ([], []), ([3], [3]), ([4], [4]), ([2, 5, 4], [2, 5]), ([0, 6, 0], [0]), ([1, 7, 0, 1, 7], [1]), ([6, 8, 0, 1, 2, 3, 4, 5, 6, 7, 8], [6])])
def spec_DrawLockFail.B4 : List Nat := [0, 0, 0, 0, 8, 24, 60, 125, 255, 511]
theorem spec_DrawLockFail.tab4 : rtab .any (opsOf Try.f45 4) = spec_DrawLockFail.T4 := by kernel_rfl
theorem spec_DrawLockFail.bits4 : waitsOk spec_DrawLockFail.T4.2 spec_DrawLockFail.B4 = true := by kernel_rfl
set_option maxHeartbeats 8000000 in
set_option maxRecDepth 100000 in
theorem spec_DrawLockFail.calls (k : Nat) (A0 : Option Addr) (c0 : Nat) (l0 : List Int) (r1 : Int) (r2 : Int) (r3 : Int) (r4 : List Int) (r5 : Int) (r6 : Int) (w : World) (hr0 : Kd.C (Kd.int .u8) w A0 l0.length l0) (hc0 : l0.length ≤ c0) (h : spec_DrawLockFail.f k l0 = some (r1, r2, r3, r4, r5, r6)) :
  Calls Try.prog 45 #[.slice A0 l0.length c0] w fun e w' => ∃ v3_ : Value, e = .returned (.tuple #[.agg #[.int .i64 r1, .int .i64 r2, .int .i64 r3], .agg #[v3_, .int .i64 r5], .int .i64 r6]) ∧ Kd.R (Kd.int .i64) 3 w' w.heap.size (fun _ => True) v3_ r4 ∧ Below w.heap.size w w' := by
 have hu40 := Try.underlying40
 have hu30 := Try.underlying30
 have HR0 := Aside0.mk hr0
 have HC0 := Aside0.mk hc0
 clear hr0 hc0
 have HB := Aside0.mk (Below.refl w.heap.size w)
 have H : ((spec_l1New.f k l0).bind fun bt103 => ((spec_l21Rules.f bt103.1 bt103.2.1 bt103.2.2).bind fun bt107 => ((spec_l21Lock.f k bt103.1 bt107.2.2.2.1 bt107.2.2.2.2 bt107.1 bt107.2.1 bt107.2.2.1).bind fun bt113 => ((spec_l1Below.f bt103.1 bt113.2.2.1 bt113.2.2.2 70).bind fun bt120 => ((spec_l1PickInt.f bt103.1 bt120.2.1 bt120.2.2 (([bt120.1, 40, 60, (-1), 100000, 100001] : List Int))).bind fun bt126 => (some (bt107.1, bt107.2.1, bt107.2.2.1, bt113.1, bt113.2.1, bt126.1))))))) = some (r1, r2, r3, r4, r5, r6) := h
 clear h
 replace H := Option.bind_eq_some_iff.mp H
 obtain ⟨⟨t103, t104, t105⟩, A20, H⟩ := H
 replace H : ((spec_l21Rules.f t103 t104 t105).bind fun bt107 => ((spec_l21Lock.f k t103 bt107.2.2.2.1 bt107.2.2.2.2 bt107.1 bt107.2.1 bt107.2.2.1).bind fun bt113 => ((spec_l1Below.f t103 bt113.2.2.1 bt113.2.2.2 70).bind fun bt120 => ((spec_l1PickInt.f t103 bt120.2.1 bt120.2.2 (([bt120.1, 40, 60, (-1), 100000, 100001] : List Int))).bind fun bt126 => (some (bt107.1, bt107.2.1, bt107.2.2.1, bt113.1, bt113.2.1, bt126.1)))))) = some (r1, r2, r3, r4, r5, r6) := H
 have A2 := Aside0.mk A20
 clear A20
 replace H := Option.bind_eq_some_iff.mp H
 obtain ⟨⟨t107, t108, t109, t110, t111⟩, A30, H⟩ := H
 replace H : ((spec_l21Lock.f k t103 t110 t111 t107 t108 t109).bind fun bt113 => ((spec_l1Below.f t103 bt113.2.2.1 bt113.2.2.2 70).bind fun bt120 => ((spec_l1PickInt.f t103 bt120.2.1 bt120.2.2 (([bt120.1, 40, 60, (-1), 100000, 100001] : List Int))).bind fun bt126 => (some (t107, t108, t109, bt113.1, bt113.2.1, bt126.1))))) = some (r1, r2, r3, r4, r5, r6) := H
 have A3 := Aside0.mk A30
 clear A30
 replace H := Option.bind_eq_some_iff.mp H
 obtain ⟨⟨t113, t116, t117, t118⟩, A40, H⟩ := H
 replace H : ((spec_l1Below.f t103 t117 t118 70).bind fun bt120 => ((spec_l1PickInt.f t103 bt120.2.1 bt120.2.2 (([bt120.1, 40, 60, (-1), 100000, 100001] : List Int))).bind fun bt126 => (some (t107, t108, t109, t113, t116, bt126.1)))) = some (r1, r2, r3, r4, r5, r6) := H
 have A4 := Aside0.mk A40
 clear A40
 replace H := Option.bind_eq_some_iff.mp H
 obtain ⟨⟨t120, t121, t122⟩, A50, H⟩ := H
 replace H : ((spec_l1PickInt.f t103 t121 t122 (([t120, 40, 60, (-1), 100000, 100001] : List Int))).bind fun bt126 => (some (t107, t108, t109, t113, t116, bt126.1))) = some (r1, r2, r3, r4, r5, r6) := H
 have A5 := Aside0.mk A50
 clear A50
 obtain ⟨y123, hy123⟩ : ∃ y_ : List Int, y_ = (([t120, 40, 60, (-1), 100000, 100001] : List Int)) := ⟨_, rfl⟩
 replace H : ((spec_l1PickInt.f t103 t121 t122 y123).bind fun bt126 => (some (t107, t108, t109, t113, t116, bt126.1))) = some (r1, r2, r3, r4, r5, r6) := by first | (rw [hy123]; with_reducible exact H) | (have H2_ := (Option.bind_some _ _).symm.trans H; rw [hy123]; with_reducible exact H2_) | (have H2_ := (Option.bind_some _ _).symm.trans H; with_reducible exact H2_) | with_reducible exact H | (rw [hy123]; exact H) | exact H
 have Ny123 := Aside0.mk hy123
 clear hy123
 replace H := Option.bind_eq_some_iff.mp H
 obtain ⟨⟨t126, t127, t128⟩, A60, H⟩ := H
 replace H : (some (t107, t108, t109, t113, t116, t126)) = some (r1, r2, r3, r4, r5, r6) := H
 have A6 := Aside0.mk A60
 clear A60
 simp only [Option.some.injEq, Prod.mk.injEq] at H
 obtain ⟨rfl, rfl, rfl, rfl, rfl, rfl⟩ := H
 go_enter Try.func45, Try.ntmps45
 try go_wp2_with (first | ((with_reducible refine gate_dst (N := 2) rfl ?_); refine box_event ?hg (N := 2) ?hd (cs := #[.int .i64 0, .int .i64 0, .int .i64 0]) (t := 40) ?hr ?_; (case hd => rfl); (case hg => rfl); (case hr => first | (go_simp; done) | (go_simp; rfl)); intro gb101 hg w7 hbox hb; have n0_ := Aside0.mk (below_step (qw0f45 HB.out) hb); have n1_ := Aside0.mk (hbox); have n2_ := Aside0.mk ((qlef45 hg (below_size (qw0f45 HB.out)))); have n3_ := Aside0.mk ((qlef45 hg (below_size (qw0f45 HB.out)))); clear HB; have HB := n0_; have BK101 := n1_; have GW101 := n2_; have GE101 := n3_; clear n0_ n1_ n2_ n3_; clear hb hbox hg) | ((with_reducible refine gate_dst (N := 3) rfl ?_); refine box_event ?hg (N := 3) ?hd (cs := #[.slice none 0 0, .int .i64 0]) (t := 30) ?hr ?_; (case hd => rfl); (case hg => rfl); (case hr => first | (go_simp; done) | (go_simp; rfl)); intro gb102 hg w8 hbox hb; have n0_ := Aside0.mk (blk_below (g := gb101) (qbf45 BK101.out) hb); have n1_ := Aside0.mk (below_step (qw1f45 HB.out GE101.out) hb); have n2_ := Aside0.mk (hbox); have n3_ := Aside0.mk ((qlef45 hg (below_size (qw1f45 HB.out GE101.out)))); have n4_ := Aside0.mk ((qlef45 hg (below_size (qw1f45 HB.out GE101.out)))); have n5_ := Aside0.mk ((by rw [hg]; exact Nat.ne_of_lt (blk_lt (g := gb101) (qbf45 BK101.out)) : gb101 ≠ gb102)); have n6_ := Aside0.mk ((by rw [hg]; exact Nat.ne_of_gt (blk_lt (g := gb101) (qbf45 BK101.out)) : gb102 ≠ gb101)); clear BK101; clear HB; have BK101 := n0_; have HB := n1_; have BK102 := n2_; have GW102 := n3_; have GE102 := n4_; have NB101_102 := n5_; have NB102_101 := n6_; clear n0_ n1_ n2_ n3_ n4_ n5_ n6_; clear hb hbox hg) | ((with_reducible refine gate_callee (f := 63) rfl ?_); refine goesL_ (some 9) rfl rfl Try.func63 (by kernel_rfl) rfl #[.slice A0 l0.length c0] rfl qff45 ?_; (with_reducible refine (spec_l1New.calls k _ _ l0 t103 t104 t105 w _ ?side1 ?side2 ?side3 A2.out).mono ?_); (case side1 => repeat (first | (with_reducible first | exact HB.out | apply below_alloc | apply pw_below_drewN | apply below_drew1 | refine below_set ?_ GE101.out | refine below_set ?_ GE102.out) | exact HB.out)); (case side2 => exact HR0.out); (case side3 => exact HC0.out); rintro e w9 ⟨g106, rfl, hi, hb, hb2⟩; refine ⟨_, rfl, ?_⟩; have n0_ := Aside0.mk (blk_below (g := gb101) (qbf45 BK101.out) hb2); have n1_ := Aside0.mk (blk_below (g := gb102) (qbf45 BK102.out) hb2); have n2_ := Aside0.mk (hb); have n3_ := Aside0.mk (hi); have n4_ := Aside0.mk (IsS73.ne_blk hi (blk_below (g := gb101) (qbf45 BK101.out) hb2) (by decide)); have n5_ := Aside0.mk (Ne.symm (IsS73.ne_blk hi (blk_below (g := gb101) (qbf45 BK101.out) hb2) (by decide))); have n6_ := Aside0.mk (IsS73.ne_blk hi (blk_below (g := gb102) (qbf45 BK102.out) hb2) (by decide)); have n7_ := Aside0.mk (Ne.symm (IsS73.ne_blk hi (blk_below (g := gb102) (qbf45 BK102.out) hb2) (by decide))); clear BK101; clear BK102; clear HB; have BK101 := n0_; have BK102 := n1_; have HB := n2_; have HI106 := n3_; have NB106_101 := n4_; have NB101_106 := n5_; have NB106_102 := n6_; have NB102_106 := n7_; clear n0_ n1_ n2_ n3_ n4_ n5_ n6_ n7_; (try clear hb); (try clear hb2); (try clear hk); (try clear hi)) | ((with_reducible refine gate_callee (f := 64) rfl ?_); refine goesL_ (some 11) rfl rfl Try.func64 (by kernel_rfl) rfl #[.pointer (some ⟨g106, 0, none⟩)] rfl qff45 ?_; (with_reducible refine (spec_l21Rules.calls g106 t103 t104 t105 t107 t108 t109 t110 t111 w _ ?side1 ?side2 A3.out).mono ?_); (case side1 => repeat (first | (with_reducible first | exact HI106.out | apply IsS73.alloc | apply IsS73.drewN | apply IsS73.drew | apply IsS73.set_1 | apply IsS73.set_2 | refine IsS73.far ?_ NB106_101.out _ | refine IsS73.far ?_ NB106_102.out _) | exact HI106.out)); (case side2 => repeat (first | (with_reducible first | exact HB.out | apply below_alloc | apply pw_below_drewN | apply below_drew1 | refine below_set ?_ (IsS73.ge HI106.out) | refine below_set ?_ GE101.out | refine below_set ?_ GE102.out) | exact HB.out)); rintro e w10 ⟨rfl, hi, hb, hk⟩; refine ⟨_, rfl, ?_⟩; have n0_ := Aside0.mk (KeepBut.blk hk (g' := gb101) (o := .cells #[.int .i64 0, .int .i64 0, .int .i64 0] 40 (0, 0)) (qbf45 BK101.out) NB101_106.out (by simp)); have n1_ := Aside0.mk (KeepBut.blk hk (g' := gb102) (o := .cells #[.slice none 0 0, .int .i64 0] 30 (0, 0)) (qbf45 BK102.out) NB102_106.out (by simp)); have n2_ := Aside0.mk (hb); have n3_ := Aside0.mk (hi); clear BK101; clear BK102; clear HB; clear HI106; have BK101 := n0_; have BK102 := n1_; have HB := n2_; have HI106 := n3_; clear n0_ n1_ n2_ n3_; (try clear hb); (try clear hb2); (try clear hk); (try clear hi)) | ((with_reducible refine gate_dst (N := 6) rfl ?_); refine box_event ?hg (N := 6) ?hd (cs := #[.int .i64 0, .int .i64 0, .int .i64 0]) (t := 40) ?hr ?_; (case hd => rfl); (case hg => rfl); (case hr => first | (go_simp; done) | (go_simp; rfl)); intro gb112 hg w11 hbox hb; have n0_ := Aside0.mk (blk_below (g := gb101) (qbf45 BK101.out) hb); have n1_ := Aside0.mk (blk_below (g := gb102) (qbf45 BK102.out) hb); have n2_ := Aside0.mk (IsS73.below (q0f45 HI106.out NB106_101.out NB106_102.out) hb); have n3_ := Aside0.mk (below_step (q1f45 HB.out (IsS73.ge HI106.out) GE101.out GE102.out) hb); have n4_ := Aside0.mk (hbox); have n5_ := Aside0.mk ((qlef45 hg (below_size (q1f45 HB.out (IsS73.ge HI106.out) GE101.out GE102.out)))); have n6_ := Aside0.mk ((qlef45 hg (below_size (q1f45 HB.out (IsS73.ge HI106.out) GE101.out GE102.out)))); have n7_ := Aside0.mk ((by rw [hg]; exact Nat.ne_of_lt (blk_lt (g := gb101) (qbf45 BK101.out)) : gb101 ≠ gb112)); have n8_ := Aside0.mk ((by rw [hg]; exact Nat.ne_of_gt (blk_lt (g := gb101) (qbf45 BK101.out)) : gb112 ≠ gb101)); have n9_ := Aside0.mk ((by rw [hg]; exact Nat.ne_of_lt (blk_lt (g := gb102) (qbf45 BK102.out)) : gb102 ≠ gb112)); have n10_ := Aside0.mk ((by rw [hg]; exact Nat.ne_of_gt (blk_lt (g := gb102) (qbf45 BK102.out)) : gb112 ≠ gb102)); have n11_ := Aside0.mk ((by rw [hg]; exact Nat.ne_of_lt (IsS73.lt (show IsS73 w _ g106 t103 t110 t111 from (q0f45 HI106.out NB106_101.out NB106_102.out))) : g106 ≠ gb112)); have n12_ := Aside0.mk ((by rw [hg]; exact Nat.ne_of_gt (IsS73.lt (show IsS73 w _ g106 t103 t110 t111 from (q0f45 HI106.out NB106_101.out NB106_102.out))) : gb112 ≠ g106)); clear BK101; clear BK102; clear HI106; clear HB; have BK101 := n0_; have BK102 := n1_; have HI106 := n2_; have HB := n3_; have BK112 := n4_; have GW112 := n5_; have GE112 := n6_; have NB101_112 := n7_; have NB112_101 := n8_; have NB102_112 := n9_; have NB112_102 := n10_; have NB106_112 := n11_; have NB112_106 := n12_; clear n0_ n1_ n2_ n3_ n4_ n5_ n6_ n7_ n8_ n9_ n10_ n11_ n12_; clear hb hbox hg; have hnb12 := NB112_101.out; have hnc12 := NB101_112.out; have hnb13 := NB112_102.out; have hnc13 := NB102_112.out; have hnb14 := NB112_106.out; have hnc14 := NB106_112.out; have hcz15_0 : w11.cell? ⟨gb112, 0, none⟩ = some (.int .i64 0) := (blk_cell BK112.out 0).trans rfl; have hcz15_1 : w11.cell? ⟨gb112, 1, none⟩ = some (.int .i64 0) := (blk_cell BK112.out 1).trans rfl; have hcz15_2 : w11.cell? ⟨gb112, 2, none⟩ = some (.int .i64 0) := (blk_cell BK112.out 2).trans rfl; have hfz15_0 := blk_frozen BK112.out 0; have hfz15_1 := blk_frozen BK112.out 1; have hfz15_2 := blk_frozen BK112.out 2) | ((with_reducible refine gate_callee (f := 65) rfl ?_); refine goesL_ (some 14) rfl rfl Try.func65 (by kernel_rfl) rfl #[.pointer (some ⟨g106, 0, none⟩), .agg #[.int .i64 t107, .int .i64 t108, .int .i64 t109]] rfl qff45 ?_; (with_reducible refine (spec_l21Lock.calls k g106 t103 t110 t111 t107 t108 t109 t113 t116 t117 t118 w _ ?side1 ?side2 A4.out).mono ?_); (case side1 => repeat (first | (with_reducible first | exact HI106.out | apply IsS73.alloc | apply IsS73.drewN | apply IsS73.drew | apply IsS73.set_1 | apply IsS73.set_2 | refine IsS73.far ?_ NB106_101.out _ | refine IsS73.far ?_ NB106_102.out _ | refine IsS73.far ?_ NB106_112.out _) | exact HI106.out)); (case side2 => repeat (first | (with_reducible first | exact HB.out | apply below_alloc | apply pw_below_drewN | apply below_drew1 | refine below_set ?_ (IsS73.ge HI106.out) | refine below_set ?_ GE101.out | refine below_set ?_ GE102.out | refine below_set ?_ GE112.out) | exact HB.out)); rintro e w16 ⟨v114, rfl, ho0, hi, hb, hk⟩; refine ⟨_, rfl, ?_⟩; have n0_ := Aside0.mk (KeepBut.blk hk (g' := gb101) (o := .cells #[.int .i64 0, .int .i64 0, .int .i64 0] 40 (0, 0)) (by (with_reducible repeat (first | refine blk_drewN ?_ _ | refine blk_drew ?_ | refine blk_alloc ?_ _)); refine blk_far ?_ NB101_112.out _; (with_reducible repeat (first | refine blk_drewN ?_ _ | refine blk_drew ?_ | refine blk_alloc ?_ _)); refine blk_far ?_ NB101_112.out _; (with_reducible repeat (first | refine blk_drewN ?_ _ | refine blk_drew ?_ | refine blk_alloc ?_ _)); refine blk_far ?_ NB101_112.out _; (with_reducible repeat (first | refine blk_drewN ?_ _ | refine blk_drew ?_ | refine blk_alloc ?_ _)); exact BK101.out) NB101_106.out (by simp)); have n1_ := Aside0.mk (KeepBut.blk hk (g' := gb102) (o := .cells #[.slice none 0 0, .int .i64 0] 30 (0, 0)) (by (with_reducible repeat (first | refine blk_drewN ?_ _ | refine blk_drew ?_ | refine blk_alloc ?_ _)); refine blk_far ?_ NB102_112.out _; (with_reducible repeat (first | refine blk_drewN ?_ _ | refine blk_drew ?_ | refine blk_alloc ?_ _)); refine blk_far ?_ NB102_112.out _; (with_reducible repeat (first | refine blk_drewN ?_ _ | refine blk_drew ?_ | refine blk_alloc ?_ _)); refine blk_far ?_ NB102_112.out _; (with_reducible repeat (first | refine blk_drewN ?_ _ | refine blk_drew ?_ | refine blk_alloc ?_ _)); exact BK102.out) NB102_106.out (by simp)); have n2_ := Aside0.mk (KeepBut.blk hk (g' := gb112) (o := .cells #[.int .i64 t107, .int .i64 t108, .int .i64 t109] 40 (0, 0)) (by (with_reducible repeat (first | refine blk_drewN ?_ _ | refine blk_drew ?_ | refine blk_alloc ?_ _)); refine blk_put (cs := #[.int .i64 t107, .int .i64 t108, .int .i64 0]) ?_ 2 _ rfl; (with_reducible repeat (first | refine blk_drewN ?_ _ | refine blk_drew ?_ | refine blk_alloc ?_ _)); refine blk_put (cs := #[.int .i64 t107, .int .i64 0, .int .i64 0]) ?_ 1 _ rfl; (with_reducible repeat (first | refine blk_drewN ?_ _ | refine blk_drew ?_ | refine blk_alloc ?_ _)); refine blk_put (cs := #[.int .i64 0, .int .i64 0, .int .i64 0]) ?_ 0 _ rfl; (with_reducible repeat (first | refine blk_drewN ?_ _ | refine blk_drew ?_ | refine blk_alloc ?_ _)); exact BK112.out) NB112_106.out (by simp)); have n3_ := Aside0.mk (Kd.R_lower ho0 (below_size (q2f45 HB.out (IsS73.ge HI106.out) GE101.out GE102.out GE112.out))); have n4_ := Aside0.mk (hb); have n5_ := Aside0.mk (hi); clear BK101; clear BK102; clear BK112; clear HB; clear HI106; have BK101 := n0_; have BK102 := n1_; have BK112 := n2_; have HO115 := n3_; have HB := n4_; have HI106 := n5_; clear n0_ n1_ n2_ n3_ n4_ n5_; (try clear hb); (try clear hb2); (try clear hk); (try clear hi); (try clear ho0)) | ((with_reducible refine gate_dst (N := 7) rfl ?_); refine box_event ?hg (N := 7) ?hd (cs := #[.slice none 0 0, .int .i64 0]) (t := 30) ?hr ?_; (case hd => rfl); (case hg => rfl); (case hr => first | (go_simp; done) | (go_simp; rfl)); intro gb119 hg w17 hbox hb; have n0_ := Aside0.mk (Kd.R_below (qrf45 HO115.out) hb); have n1_ := Aside0.mk (blk_below (g := gb101) (qbf45 BK101.out) hb); have n2_ := Aside0.mk (blk_below (g := gb102) (qbf45 BK102.out) hb); have n3_ := Aside0.mk (IsS73.below (q3f45 HI106.out NB106_101.out NB106_102.out NB106_112.out) hb); have n4_ := Aside0.mk (blk_below (g := gb112) (qbf45 BK112.out) hb); have n5_ := Aside0.mk (below_step (q2f45 HB.out (IsS73.ge HI106.out) GE101.out GE102.out GE112.out) hb); have n6_ := Aside0.mk (hbox); have n7_ := Aside0.mk ((qlef45 hg (below_size (q2f45 HB.out (IsS73.ge HI106.out) GE101.out GE102.out GE112.out)))); have n8_ := Aside0.mk ((qlef45 hg (below_size (q2f45 HB.out (IsS73.ge HI106.out) GE101.out GE102.out GE112.out)))); have n9_ := Aside0.mk ((by rw [hg]; exact Nat.ne_of_lt (blk_lt (g := gb101) (qbf45 BK101.out)) : gb101 ≠ gb119)); have n10_ := Aside0.mk ((by rw [hg]; exact Nat.ne_of_gt (blk_lt (g := gb101) (qbf45 BK101.out)) : gb119 ≠ gb101)); have n11_ := Aside0.mk ((by rw [hg]; exact Nat.ne_of_lt (blk_lt (g := gb102) (qbf45 BK102.out)) : gb102 ≠ gb119)); have n12_ := Aside0.mk ((by rw [hg]; exact Nat.ne_of_gt (blk_lt (g := gb102) (qbf45 BK102.out)) : gb119 ≠ gb102)); have n13_ := Aside0.mk ((by rw [hg]; exact Nat.ne_of_lt (blk_lt (g := gb112) (qbf45 BK112.out)) : gb112 ≠ gb119)); have n14_ := Aside0.mk ((by rw [hg]; exact Nat.ne_of_gt (blk_lt (g := gb112) (qbf45 BK112.out)) : gb119 ≠ gb112)); have n15_ := Aside0.mk ((by rw [hg]; exact Nat.ne_of_lt (IsS73.lt (show IsS73 w _ g106 t103 t117 t118 from (q3f45 HI106.out NB106_101.out NB106_102.out NB106_112.out))) : g106 ≠ gb119)); have n16_ := Aside0.mk ((by rw [hg]; exact Nat.ne_of_gt (IsS73.lt (show IsS73 w _ g106 t103 t117 t118 from (q3f45 HI106.out NB106_101.out NB106_102.out NB106_112.out))) : gb119 ≠ g106)); clear HO115; clear BK101; clear BK102; clear HI106; clear BK112; clear HB; have HO115 := n0_; have BK101 := n1_; have BK102 := n2_; have HI106 := n3_; have BK112 := n4_; have HB := n5_; have BK119 := n6_; have GW119 := n7_; have GE119 := n8_; have NB101_119 := n9_; have NB119_101 := n10_; have NB102_119 := n11_; have NB119_102 := n12_; have NB112_119 := n13_; have NB119_112 := n14_; have NB106_119 := n15_; have NB119_106 := n16_; clear n0_ n1_ n2_ n3_ n4_ n5_ n6_ n7_ n8_ n9_ n10_ n11_ n12_ n13_ n14_ n15_ n16_; clear hb hbox hg; obtain ⟨Ao18, co18, eo18⟩ := Kd.R_slice HO115.out; subst eo18; have hnb19 := NB119_101.out; have hnc19 := NB101_119.out; have hnb20 := NB119_102.out; have hnc20 := NB102_119.out; have hnb21 := NB119_112.out; have hnc21 := NB112_119.out; have hnb22 := NB119_106.out; have hnc22 := NB106_119.out; have hcz23_0 : w17.cell? ⟨gb119, 0, none⟩ = some (.slice none 0 0) := (blk_cell BK119.out 0).trans rfl; have hcz23_1 : w17.cell? ⟨gb119, 1, none⟩ = some (.int .i64 0) := (blk_cell BK119.out 1).trans rfl; have hfz23_0 := blk_frozen BK119.out 0; have hfz23_1 := blk_frozen BK119.out 1))
 have n0_ : Aside0 (Kd.R (Kd.int .i64) 3 ((w17.setCell ⟨gb119, 0, none⟩ (.slice Ao18 t113.length co18)).setCell ⟨gb119, 1, none⟩ (.int .i64 t116)) w.heap.size (fun _ => True) (.slice Ao18 t113.length co18) t113) := ⟨by (with_reducible repeat (first | apply Kd.R_alloc | apply Kd.R_drewN | apply Kd.R_drew)); exact Kd.R_mono (Kd.R_far (p := ⟨gb119, 1, none⟩) (Kd.R_far (p := ⟨gb119, 0, none⟩) (Kd.R_types HO115.out BK119.out (by decide)) (fun _ hk => hk.2) (.slice Ao18 t113.length co18)) (fun _ hk => hk.2) (.int .i64 t116)) (fun _ hk => trivial)⟩
 have n1_ : Aside0 (((w17.setCell ⟨gb119, 0, none⟩ (.slice Ao18 t113.length co18)).setCell ⟨gb119, 1, none⟩ (.int .i64 t116)).heap[gb101]? = some (.cells #[.int .i64 0, .int .i64 0, .int .i64 0] 40 (0, 0))) := ⟨by (with_reducible repeat (first | refine blk_drewN ?_ _ | refine blk_drew ?_ | refine blk_alloc ?_ _)); refine blk_far ?_ NB101_119.out _; (with_reducible repeat (first | refine blk_drewN ?_ _ | refine blk_drew ?_ | refine blk_alloc ?_ _)); refine blk_far ?_ NB101_119.out _; (with_reducible repeat (first | refine blk_drewN ?_ _ | refine blk_drew ?_ | refine blk_alloc ?_ _)); exact BK101.out⟩
 have n2_ : Aside0 (((w17.setCell ⟨gb119, 0, none⟩ (.slice Ao18 t113.length co18)).setCell ⟨gb119, 1, none⟩ (.int .i64 t116)).heap[gb102]? = some (.cells #[.slice none 0 0, .int .i64 0] 30 (0, 0))) := ⟨by (with_reducible repeat (first | refine blk_drewN ?_ _ | refine blk_drew ?_ | refine blk_alloc ?_ _)); refine blk_far ?_ NB102_119.out _; (with_reducible repeat (first | refine blk_drewN ?_ _ | refine blk_drew ?_ | refine blk_alloc ?_ _)); refine blk_far ?_ NB102_119.out _; (with_reducible repeat (first | refine blk_drewN ?_ _ | refine blk_drew ?_ | refine blk_alloc ?_ _)); exact BK102.out⟩
 have n3_ : Aside0 (((w17.setCell ⟨gb119, 0, none⟩ (.slice Ao18 t113.length co18)).setCell ⟨gb119, 1, none⟩ (.int .i64 t116)).heap[gb112]? = some (.cells #[.int .i64 t107, .int .i64 t108, .int .i64 t109] 40 (0, 0))) := ⟨by (with_reducible repeat (first | refine blk_drewN ?_ _ | refine blk_drew ?_ | refine blk_alloc ?_ _)); refine blk_far ?_ NB112_119.out _; (with_reducible repeat (first | refine blk_drewN ?_ _ | refine blk_drew ?_ | refine blk_alloc ?_ _)); refine blk_far ?_ NB112_119.out _; (with_reducible repeat (first | refine blk_drewN ?_ _ | refine blk_drew ?_ | refine blk_alloc ?_ _)); exact BK112.out⟩
 have n4_ : Aside0 (((w17.setCell ⟨gb119, 0, none⟩ (.slice Ao18 t113.length co18)).setCell ⟨gb119, 1, none⟩ (.int .i64 t116)).heap[gb119]? = some (.cells #[.slice Ao18 t113.length co18, .int .i64 t116] 30 (0, 0))) := ⟨by (with_reducible repeat (first | refine blk_drewN ?_ _ | refine blk_drew ?_ | refine blk_alloc ?_ _)); refine blk_put (cs := #[.slice Ao18 t113.length co18, .int .i64 0]) ?_ 1 _ rfl; (with_reducible repeat (first | refine blk_drewN ?_ _ | refine blk_drew ?_ | refine blk_alloc ?_ _)); refine blk_put (cs := #[.slice none 0 0, .int .i64 0]) ?_ 0 _ rfl; (with_reducible repeat (first | refine blk_drewN ?_ _ | refine blk_drew ?_ | refine blk_alloc ?_ _)); exact BK119.out⟩
 have n5_ : Aside0 (IsS73 w ((w17.setCell ⟨gb119, 0, none⟩ (.slice Ao18 t113.length co18)).setCell ⟨gb119, 1, none⟩ (.int .i64 t116)) g106 t103 t117 t118) := ⟨(q5f45 HI106.out NB106_101.out NB106_102.out NB106_112.out NB106_119.out)⟩
 have n6_ : Aside0 (Below w.heap.size w ((w17.setCell ⟨gb119, 0, none⟩ (.slice Ao18 t113.length co18)).setCell ⟨gb119, 1, none⟩ (.int .i64 t116))) := ⟨(q4f45 HB.out (IsS73.ge HI106.out) GE101.out GE102.out GE112.out GE119.out)⟩
 (try clear HO115)
 (try clear BK101)
 (try clear BK102)
 (try clear BK112)
 (try clear BK119)
 (try clear HI106)
 (try clear HB)
 generalize ((w17.setCell ⟨gb119, 0, none⟩ (.slice Ao18 t113.length co18)).setCell ⟨gb119, 1, none⟩ (.int .i64 t116)) = w24 at n0_ n1_ n2_ n3_ n4_ n5_ n6_ ⊢
 have HO115 := n0_
 have BK101 := n1_
 have BK102 := n2_
 have BK112 := n3_
 have BK119 := n4_
 have HI106 := n5_
 have HB := n6_
 clear n0_ n1_ n2_ n3_ n4_ n5_ n6_
 have n0_ := Aside0.mk (Kd.R_drew HO115.out)
 have n1_ := Aside0.mk (blk_drew BK101.out)
 have n2_ := Aside0.mk (blk_drew BK102.out)
 have n3_ := Aside0.mk (blk_drew BK112.out)
 have n4_ := Aside0.mk (blk_drew BK119.out)
 have n5_ := Aside0.mk (IsS73.drew HI106.out)
 have n6_ := Aside0.mk (below_drew1 HB.out)
 clear HO115
 clear BK101
 clear BK102
 clear BK112
 clear BK119
 clear HI106
 clear HB
 have HO115 := n0_
 have BK101 := n1_
 have BK102 := n2_
 have BK112 := n3_
 have BK119 := n4_
 have HI106 := n5_
 have HB := n6_
 clear n0_ n1_ n2_ n3_ n4_ n5_ n6_
 refine start_ (n := 10) (S := fun w' => w'.cell? ⟨gb112, 0, none⟩ = some (.int .i64 t107) ∧ w'.cell? ⟨gb112, 1, none⟩ = some (.int .i64 t108) ∧ w'.cell? ⟨gb112, 2, none⟩ = some (.int .i64 t109) ∧ w'.cell? ⟨gb119, 0, none⟩ = some (.slice Ao18 t113.length co18) ∧ w'.cell? ⟨gb119, 1, none⟩ = some (.int .i64 t116)) (ds := []) (rlf45 [0, 10]) (by kernel_rfl) rfl rfl ⟨(blk_cell BK112.out 0).trans rfl, (blk_cell BK112.out 1).trans rfl, (blk_cell BK112.out 2).trans rfl, (blk_cell BK119.out 0).trans rfl, (blk_cell BK119.out 1).trans rfl⟩ (fun hHeld => ?_); refine with_tabW spec_DrawLockFail.tab4 spec_DrawLockFail.bits4 (fun HT_ HW_ => ?_)
 generalize w24.drew = w25 at HO115 BK101 BK102 BK112 BK119 HI106 HB hHeld ⊢
 refine pure_ (i := 2) (N := some 17) (v := ?_) (a' := ?_) (rlf45 [0, 2, 1, 7]) rfl rfl (any_of HT_.out (by kernel_rfl)) (fun _ _ _ h => h) (Or.inl ⟨by rfl, ?_⟩) ?_ ?_
 rotate_left
 ·
  intro w'
  go_simp
  with_reducible rfl
 rotate_left
 ·
  exact qsf45
 refine pure_ (i := 3) (N := some 18) (v := ?_) (a' := ?_) (rlf45 [0, 2, 2, 6]) rfl rfl (any_of HT_.out (by kernel_rfl)) (fun _ _ _ h => h) (Or.inl ⟨by rfl, ?_⟩) ?_ ?_
 rotate_left
 ·
  intro w'
  go_simp
  with_reducible rfl
 rotate_left
 ·
  exact qsf45
 refine take_ (i := 0) (N := some 15) (v := ?_) (a' := ?_) (rlf45 [1, 1, 2, 6]) rfl rfl (take_ofW HT_.out HW_.out (by kernel_rfl)) (fun _ _ _ h => h) (Or.inl ⟨by rfl, ?_⟩) hHeld ?_ ?_
 rotate_left
 ·
  rintro w' ⟨s0, s1, s2, s3, s4⟩
  go_simp
  with_reducible rfl
 rotate_left
 ·
  exact qsf45
 refine take_ (i := 1) (N := some 16) (v := ?_) (a' := ?_) (rlf45 [4, 6]) rfl rfl (take_ofW HT_.out HW_.out (by kernel_rfl)) (fun _ _ _ h => h) (Or.inl ⟨by rfl, ?_⟩) hHeld ?_ ?_
 rotate_left
 ·
  rintro w' ⟨s0, s1, s2, s3, s4⟩
  go_simp
  with_reducible rfl
 rotate_left
 ·
  exact qsf45
 refine one_ (i := 4) (N := some 19) (rlf45 [5, 5]) rfl rfl (one_of HT_.out (by kernel_rfl)) (by decide) (fun K hK => ?_)
 refine goes_ Try.func67 (by kernel_rfl) rfl #[.pointer (some ⟨g106, 0, none⟩), .int .i64 70] (by rfl) rfl rfl qff45 ?_
 with_reducible refine (spec_l1Below.calls g106 t103 t117 t118 70 t120 t121 t122 w _ ?side1 ?side2 A5.out).mono ?_
 (case side1 => repeat (first | (with_reducible first | exact HI106.out | apply IsS73.alloc | apply IsS73.drewN | apply IsS73.drew | apply IsS73.set_1 | apply IsS73.set_2 | refine IsS73.far ?_ NB106_101.out _ | refine IsS73.far ?_ NB106_102.out _ | refine IsS73.far ?_ NB106_112.out _ | refine IsS73.far ?_ NB106_119.out _) | exact HI106.out))
 (case side2 => repeat (first | (with_reducible first | exact HB.out | apply below_alloc | apply pw_below_drewN | apply below_drew1 | refine below_set ?_ (IsS73.ge HI106.out) | refine below_set ?_ GE101.out | refine below_set ?_ GE102.out | refine below_set ?_ GE112.out | refine below_set ?_ GE119.out) | exact HB.out))
 rintro e w26 ⟨rfl, hi, hb, hk⟩
 refine ⟨_, rfl, ?_⟩
 have n0_ := Aside0.mk (KeepBut.blk hk (g' := gb101) (o := .cells #[.int .i64 0, .int .i64 0, .int .i64 0] 40 (0, 0)) (qbf45 BK101.out) NB101_106.out (by simp))
 have n1_ := Aside0.mk (KeepBut.blk hk (g' := gb102) (o := .cells #[.slice none 0 0, .int .i64 0] 30 (0, 0)) (qbf45 BK102.out) NB102_106.out (by simp))
 have n2_ := Aside0.mk (KeepBut.blk hk (g' := gb112) (o := .cells #[.int .i64 t107, .int .i64 t108, .int .i64 t109] 40 (0, 0)) (qbf45 BK112.out) NB112_106.out (by simp))
 have n3_ := Aside0.mk (Kd.R_mono (Kd.R_keep (IsS73.apart (show IsS73 w _ g106 t103 t117 t118 from (q5f45 HI106.out NB106_101.out NB106_102.out NB106_112.out NB106_119.out)) (qrf45 HO115.out) (by decide)) hk (fun _ h => h.2)) (fun _ h => h.1))
 have n4_ := Aside0.mk (KeepBut.blk hk (g' := gb119) (o := .cells #[.slice Ao18 t113.length co18, .int .i64 t116] 30 (0, 0)) (qbf45 BK119.out) NB119_106.out (by simp))
 have n5_ := Aside0.mk (hb)
 have n6_ := Aside0.mk (hi)
 clear BK101
 clear BK102
 clear BK112
 clear HO115
 clear BK119
 clear HB
 clear HI106
 have BK101 := n0_
 have BK102 := n1_
 have BK112 := n2_
 have HO115 := n3_
 have BK119 := n4_
 have HB := n5_
 have HI106 := n6_
 clear n0_ n1_ n2_ n3_ n4_ n5_ n6_
 (try clear hb)
 (try clear hb2)
 (try clear hk)
 (try clear hi)
 refine hK.out _ _ ⟨(blk_cell BK112.out 0).trans rfl, (blk_cell BK112.out 1).trans rfl, (blk_cell BK112.out 2).trans rfl, (blk_cell BK119.out 0).trans rfl, (blk_cell BK119.out 1).trans rfl⟩ (fun hHeld => ?_)
 clear hK K
 refine norm_ (a' := ?_) ?_ ?_
 rotate_left
 ·
  show Act.put _ (some 19) _ = _
  exact qsf45
 refine one_ (i := 5) (N := some 20) (rlf45 [6, 4]) rfl rfl (one_of HT_.out (by kernel_rfl)) (by decide) (fun K hK => ?_)
 refine Kd.R_lit_step (Kd.int .i64) _ 3 ?hg (N := 20) ?hd (xs := ([t120, 40, 60, (-1), 100000, 100001] : List Int)) (inner := [.int .i64 t120, .int .i64 40, .int .i64 60, .int .i64 (-1), .int .i64 100000, .int .i64 100001]) (ok := fun _ => True) (okp := fun _ => True) ?hr ?hp (fun _ hk => hk) trivial (Below.refl _ _) (Nat.le_refl _) (by simp) ?_; (case hd => rfl); (case hg => rfl); (case hr => first | (go_simp; done) | (go_simp; rfl)); (case hp => exact (Reps.one (show Kd.M (Kd.int .i64) _ _ _ t120 [.int .i64 t120] from rfl) (Reps.one (show Kd.M (Kd.int .i64) _ _ _ 40 [.int .i64 40] from rfl) (Reps.one (show Kd.M (Kd.int .i64) _ _ _ 60 [.int .i64 60] from rfl) (Reps.one (show Kd.M (Kd.int .i64) _ _ _ (-1) [.int .i64 (-1)] from rfl) (Reps.one (show Kd.M (Kd.int .i64) _ _ _ 100000 [.int .i64 100000] from rfl) (Reps.one (show Kd.M (Kd.int .i64) _ _ _ 100001 [.int .i64 100001] from rfl) (Reps.none _ _))))))))
 intro v124 w27 ho28 hb hg_ hnew_
 clear hg_ hnew_
 (first | rw [← Ny123.out] at ho28 | (simp only [Int.reduceToNat] at ho28; rw [← Ny123.out] at ho28))
 have n0_ := Aside0.mk (Kd.R_elder' (qrf45 HO115.out) (Kd.R_base ho28) hb)
 have n1_ := Aside0.mk (Kd.R_lower (Kd.R_new' ho28 (Kd.R_lt (qrf45 HO115.out))) (below_size (q4f45 HB.out (IsS73.ge HI106.out) GE101.out GE102.out GE112.out GE119.out)))
 have n2_ := Aside0.mk (blk_below (g := gb101) (qbf45 BK101.out) hb)
 have n3_ := Aside0.mk (blk_below (g := gb102) (qbf45 BK102.out) hb)
 have n4_ := Aside0.mk (IsS73.below (q5f45 HI106.out NB106_101.out NB106_102.out NB106_112.out NB106_119.out) hb)
 have n5_ := Aside0.mk (blk_below (g := gb112) (qbf45 BK112.out) hb)
 have n6_ := Aside0.mk (blk_below (g := gb119) (qbf45 BK119.out) hb)
 have n7_ := Aside0.mk (below_step (q4f45 HB.out (IsS73.ge HI106.out) GE101.out GE102.out GE112.out GE119.out) hb)
 clear HO115
 clear BK101
 clear BK102
 clear HI106
 clear BK112
 clear BK119
 clear HB
 have HO115 := n0_
 have HO125 := n1_
 have BK101 := n2_
 have BK102 := n3_
 have HI106 := n4_
 have BK112 := n5_
 have BK119 := n6_
 have HB := n7_
 clear n0_ n1_ n2_ n3_ n4_ n5_ n6_ n7_
 clear hb ho28
 obtain ⟨Ao29, co29, eo29⟩ := Kd.R_slice HO125.out
 (first | subst eo29 | (injection eo29 with f1_ f2_ f3_; have f4_ := f1_.symm; have f5_ := f3_.symm; clear f1_ f2_ f3_; subst f4_; subst f5_))
 refine hK.out _ _ ⟨(blk_cell BK112.out 0).trans rfl, (blk_cell BK112.out 1).trans rfl, (blk_cell BK112.out 2).trans rfl, (blk_cell BK119.out 0).trans rfl, (blk_cell BK119.out 1).trans rfl⟩ (fun hHeld => ?_)
 clear hK K
 refine norm_ (a' := ?_) ?_ ?_
 rotate_left
 ·
  show Act.put _ (some 20) _ = _
  exact qsf45
 refine one_ (i := 6) (N := some 21) (rlf45 [7, 3]) rfl rfl (one_of HT_.out (by kernel_rfl)) (by decide) (fun K hK => ?_)
 refine goes_ Try.func66 (by kernel_rfl) rfl #[.pointer (some ⟨g106, 0, none⟩), .slice Ao29 y123.length co29] (by rfl) rfl rfl qff45 ?_
 with_reducible refine (spec_l1PickInt.calls g106 t103 t121 t122 _ _ y123 t126 t127 t128 w _ ?side1 ?side2 ?side3 ?side4 ?side5 A6.out).mono ?_
 (case side1 => repeat (first | (with_reducible first | exact HI106.out | apply IsS73.alloc | apply IsS73.drewN | apply IsS73.drew | apply IsS73.set_1 | apply IsS73.set_2 | refine IsS73.far ?_ NB106_101.out _ | refine IsS73.far ?_ NB106_102.out _ | refine IsS73.far ?_ NB106_112.out _ | refine IsS73.far ?_ NB106_119.out _) | exact HI106.out))
 (case side2 => repeat (first | (with_reducible first | exact HB.out | apply below_alloc | apply pw_below_drewN | apply below_drew1 | refine below_set ?_ (IsS73.ge HI106.out) | refine below_set ?_ GE101.out | refine below_set ?_ GE102.out | refine below_set ?_ GE112.out | refine below_set ?_ GE119.out) | exact HB.out))
 (case side3 => repeat (first | exact (Kd.R_reads' HO125.out).2.2 | (with_reducible refine Kd.C_alloc ?_ _) | (with_reducible refine Kd.C_drewN ?_ _) | (with_reducible refine Kd.C_drew ?_)))
 (case side4 => exact (Kd.R_reads' HO125.out).2.1)
 (case side5 => exact far_slice (IsS73.own_ne HI106.out HO125.out (by decide)))
 rintro e w30 ⟨rfl, hi, hb, hk⟩
 refine ⟨_, rfl, ?_⟩
 have n0_ := Aside0.mk (KeepBut.blk hk (g' := gb101) (o := .cells #[.int .i64 0, .int .i64 0, .int .i64 0] 40 (0, 0)) (qbf45 BK101.out) NB101_106.out (by simp))
 have n1_ := Aside0.mk (KeepBut.blk hk (g' := gb102) (o := .cells #[.slice none 0 0, .int .i64 0] 30 (0, 0)) (qbf45 BK102.out) NB102_106.out (by simp))
 have n2_ := Aside0.mk (KeepBut.blk hk (g' := gb112) (o := .cells #[.int .i64 t107, .int .i64 t108, .int .i64 t109] 40 (0, 0)) (qbf45 BK112.out) NB112_106.out (by simp))
 have n3_ := Aside0.mk (Kd.R_mono (Kd.R_keep (IsS73.apart (show IsS73 w _ g106 t103 t121 t122 from (q5f45 HI106.out NB106_101.out NB106_102.out NB106_112.out NB106_119.out)) (qrf45 HO115.out) (by decide)) hk (fun _ h => h.2)) (fun _ h => h.1))
 have n4_ := Aside0.mk (KeepBut.blk hk (g' := gb119) (o := .cells #[.slice Ao18 t113.length co18, .int .i64 t116] 30 (0, 0)) (qbf45 BK119.out) NB119_106.out (by simp))
 have n5_ := Aside0.mk (Kd.R_mono (Kd.R_keep (IsS73.apart (show IsS73 w _ g106 t103 t121 t122 from (q5f45 HI106.out NB106_101.out NB106_102.out NB106_112.out NB106_119.out)) (qrf45 HO125.out) (by decide)) hk (fun _ h => h.2)) (fun _ h => h.1))
 have n6_ := Aside0.mk (hb)
 have n7_ := Aside0.mk (hi)
 clear BK101
 clear BK102
 clear BK112
 clear HO115
 clear BK119
 clear HO125
 clear HB
 clear HI106
 have BK101 := n0_
 have BK102 := n1_
 have BK112 := n2_
 have HO115 := n3_
 have BK119 := n4_
 have HO125 := n5_
 have HB := n6_
 have HI106 := n7_
 clear n0_ n1_ n2_ n3_ n4_ n5_ n6_ n7_
 (try clear hb)
 (try clear hb2)
 (try clear hk)
 (try clear hi)
 refine hK.out _ _ ⟨(blk_cell BK112.out 0).trans rfl, (blk_cell BK112.out 1).trans rfl, (blk_cell BK112.out 2).trans rfl, (blk_cell BK119.out 0).trans rfl, (blk_cell BK119.out 1).trans rfl⟩ (fun hHeld => ?_)
 clear hK K
 refine norm_ (a' := ?_) ?_ ?_
 rotate_left
 ·
  show Act.put _ (some 21) _ = _
  exact qsf45
 refine one_ (i := 7) (N := none) (rlf45 [8, 2]) rfl rfl (one_of HT_.out (by kernel_rfl)) (by decide) (fun K hK => ?_)
 have hs31 : w30.cell? ⟨gb101, 0, none⟩ = some (.int .i64 0) := (blk_cell BK101.out 0).trans rfl
 have hfs31 := blk_frozen BK101.out 0
 have hns31_1 := NB102_101.out
 have hns31_2 := NB112_101.out
 have hns31_3 := NB119_101.out
 have hms31_1 := NB101_102.out
 have hms31_2 := NB101_112.out
 have hms31_3 := NB101_119.out
 have hs32 : w30.cell? ⟨gb101, 1, none⟩ = some (.int .i64 0) := (blk_cell BK101.out 1).trans rfl
 have hfs32 := blk_frozen BK101.out 1
 have hns32_1 := NB102_101.out
 have hns32_2 := NB112_101.out
 have hns32_3 := NB119_101.out
 have hms32_1 := NB101_102.out
 have hms32_2 := NB101_112.out
 have hms32_3 := NB101_119.out
 have hs33 : w30.cell? ⟨gb101, 2, none⟩ = some (.int .i64 0) := (blk_cell BK101.out 2).trans rfl
 have hfs33 := blk_frozen BK101.out 2
 have hns33_1 := NB102_101.out
 have hns33_2 := NB112_101.out
 have hns33_3 := NB119_101.out
 have hms33_1 := NB101_102.out
 have hms33_2 := NB101_112.out
 have hms33_3 := NB101_119.out
 refine skip_ (w1 := ?_) (by rfl) rfl ?_ ?_
 rotate_left
 ·
  go_simp
  rfl
 refine hK.out _ _ ⟨((cell_far (p := ⟨gb101, _, none⟩) NB112_101.out _).trans (((cell_far (p := ⟨gb101, _, none⟩) NB112_101.out _).trans (((cell_far (p := ⟨gb101, _, none⟩) NB112_101.out _).trans (hHeld.1)))))), ((cell_far (p := ⟨gb101, _, none⟩) NB112_101.out _).trans (((cell_far (p := ⟨gb101, _, none⟩) NB112_101.out _).trans (((cell_far (p := ⟨gb101, _, none⟩) NB112_101.out _).trans (hHeld.2.1)))))), ((cell_far (p := ⟨gb101, _, none⟩) NB112_101.out _).trans (((cell_far (p := ⟨gb101, _, none⟩) NB112_101.out _).trans (((cell_far (p := ⟨gb101, _, none⟩) NB112_101.out _).trans (hHeld.2.2.1)))))), ((cell_far (p := ⟨gb101, _, none⟩) NB119_101.out _).trans (((cell_far (p := ⟨gb101, _, none⟩) NB119_101.out _).trans (((cell_far (p := ⟨gb101, _, none⟩) NB119_101.out _).trans (hHeld.2.2.2.1)))))), ((cell_far (p := ⟨gb101, _, none⟩) NB119_101.out _).trans (((cell_far (p := ⟨gb101, _, none⟩) NB119_101.out _).trans (((cell_far (p := ⟨gb101, _, none⟩) NB119_101.out _).trans (hHeld.2.2.2.2))))))⟩ (fun hHeld => ?_)
 clear hK K
 refine one_ (i := 8) (N := none) (rlf45 [9, 1]) rfl rfl (one_of HT_.out (by kernel_rfl)) (by decide) (fun K hK => ?_)
 have hs34 : w30.cell? ⟨gb102, 0, none⟩ = some (.slice none 0 0) := (blk_cell BK102.out 0).trans rfl
 have hfs34 := blk_frozen BK102.out 0
 have hns34_0 := NB101_102.out
 have hns34_2 := NB112_102.out
 have hns34_3 := NB119_102.out
 have hms34_0 := NB102_101.out
 have hms34_2 := NB102_112.out
 have hms34_3 := NB102_119.out
 have hs35 : w30.cell? ⟨gb102, 1, none⟩ = some (.int .i64 0) := (blk_cell BK102.out 1).trans rfl
 have hfs35 := blk_frozen BK102.out 1
 have hns35_0 := NB101_102.out
 have hns35_2 := NB112_102.out
 have hns35_3 := NB119_102.out
 have hms35_0 := NB102_101.out
 have hms35_2 := NB102_112.out
 have hms35_3 := NB102_119.out
 refine skip_ (w1 := ?_) (by rfl) rfl ?_ ?_
 rotate_left
 ·
  go_simp
  rfl
 refine hK.out _ _ ⟨((cell_far (p := ⟨gb102, _, none⟩) NB112_102.out _).trans (((cell_far (p := ⟨gb102, _, none⟩) NB112_102.out _).trans (hHeld.1)))), ((cell_far (p := ⟨gb102, _, none⟩) NB112_102.out _).trans (((cell_far (p := ⟨gb102, _, none⟩) NB112_102.out _).trans (hHeld.2.1)))), ((cell_far (p := ⟨gb102, _, none⟩) NB112_102.out _).trans (((cell_far (p := ⟨gb102, _, none⟩) NB112_102.out _).trans (hHeld.2.2.1)))), ((cell_far (p := ⟨gb102, _, none⟩) NB119_102.out _).trans (((cell_far (p := ⟨gb102, _, none⟩) NB119_102.out _).trans (hHeld.2.2.2.1)))), ((cell_far (p := ⟨gb102, _, none⟩) NB119_102.out _).trans (((cell_far (p := ⟨gb102, _, none⟩) NB119_102.out _).trans (hHeld.2.2.2.2))))⟩ (fun hHeld => ?_)
 clear hK K
 refine pure_ (i := 9) (N := some 4) (v := ?_) (a' := ?_) (rlf45 [10]) rfl rfl (any_of HT_.out (by kernel_rfl)) (fun _ _ _ h => h) (Or.inl ⟨by rfl, ?_⟩) ?_ ?_
 rotate_left
 ·
  intro w'
  go_simp
  with_reducible rfl
 rotate_left
 ·
  exact qsf45
 refine done_ (done_of HT_.out (by kernel_rfl)) ?_
 try go_wp2
 refine bodyPost_ret (results_list (rs := [.cell 2 40, .cell 3 30, .tmp 4]) rfl (by simp) (.cell gb101 40 #[.int .i64 t107, .int .i64 t108, .int .i64 t109] (0, 0) _ rfl (by (with_reducible repeat (first | refine blk_drewN ?_ _ | refine blk_drew ?_ | refine blk_alloc ?_ _)); refine blk_far ?_ NB101_102.out _; (with_reducible repeat (first | refine blk_drewN ?_ _ | refine blk_drew ?_ | refine blk_alloc ?_ _)); refine blk_far ?_ NB101_102.out _; (with_reducible repeat (first | refine blk_drewN ?_ _ | refine blk_drew ?_ | refine blk_alloc ?_ _)); refine blk_put (cs := #[.int .i64 t107, .int .i64 t108, .int .i64 0]) ?_ 2 _ rfl; (with_reducible repeat (first | refine blk_drewN ?_ _ | refine blk_drew ?_ | refine blk_alloc ?_ _)); refine blk_put (cs := #[.int .i64 t107, .int .i64 0, .int .i64 0]) ?_ 1 _ rfl; (with_reducible repeat (first | refine blk_drewN ?_ _ | refine blk_drew ?_ | refine blk_alloc ?_ _)); refine blk_put (cs := #[.int .i64 0, .int .i64 0, .int .i64 0]) ?_ 0 _ rfl; (with_reducible repeat (first | refine blk_drewN ?_ _ | refine blk_drew ?_ | refine blk_alloc ?_ _)); exact BK101.out) Try.underlying40 rfl (by kernel_rfl) (.cell gb102 30 #[.slice Ao18 t113.length co18, .int .i64 t116] (0, 0) _ rfl (by (with_reducible repeat (first | refine blk_drewN ?_ _ | refine blk_drew ?_ | refine blk_alloc ?_ _)); refine blk_put (cs := #[.slice Ao18 t113.length co18, .int .i64 0]) ?_ 1 _ rfl; (with_reducible repeat (first | refine blk_drewN ?_ _ | refine blk_drew ?_ | refine blk_alloc ?_ _)); refine blk_put (cs := #[.slice none 0 0, .int .i64 0]) ?_ 0 _ rfl; (with_reducible repeat (first | refine blk_drewN ?_ _ | refine blk_drew ?_ | refine blk_alloc ?_ _)); refine blk_far ?_ NB102_101.out _; (with_reducible repeat (first | refine blk_drewN ?_ _ | refine blk_drew ?_ | refine blk_alloc ?_ _)); refine blk_far ?_ NB102_101.out _; (with_reducible repeat (first | refine blk_drewN ?_ _ | refine blk_drew ?_ | refine blk_alloc ?_ _)); refine blk_far ?_ NB102_101.out _; (with_reducible repeat (first | refine blk_drewN ?_ _ | refine blk_drew ?_ | refine blk_alloc ?_ _)); exact BK102.out) Try.underlying30 rfl (by kernel_rfl) (.tmp .nil)))) rfl ?_
 exact ⟨_, by first | rfl | (simp [errW_none, errW_some] <;> rfl) | (simp [*, errW_none, errW_some] <;> rfl), by (with_reducible repeat (first | apply Kd.R_alloc | apply Kd.R_drewN | apply Kd.R_drew)); exact Kd.R_mono (Kd.R_far (p := ⟨gb102, 1, none⟩) (Kd.R_far (p := ⟨gb102, 0, none⟩) (Kd.R_far (p := ⟨gb101, 2, none⟩) (Kd.R_far (p := ⟨gb101, 1, none⟩) (Kd.R_far (p := ⟨gb101, 0, none⟩) (Kd.R_types (Kd.R_types HO115.out BK101.out (by decide)) BK102.out (by decide)) (fun _ hk => hk.1.2) (.int .i64 t107)) (fun _ hk => hk.1.2) (.int .i64 t108)) (fun _ hk => hk.1.2) (.int .i64 t109)) (fun _ hk => hk.2) (.slice Ao18 t113.length co18)) (fun _ hk => hk.2) (.int .i64 t116)) (fun _ hk => trivial), (q4f45 HB.out (IsS73.ge HI106.out) GE101.out GE102.out GE112.out GE119.out)⟩

end Go.Proofs.Ytfkecldlhngjhaa.XA

namespace Go.Proofs.Ytfkecldlhngjhaa.XA
open Go.RowKit Go.Proofs.YtfkecldlhngjhaaW.PrintWords Go.Proofs.YtfkecldlhngjhaaW.PrintLast Go.Proofs.YtfkecldlhngjhaaW.PrintMore
attribute [local go_sem] max2_int min2_int max_two min_two max_three min_three max_four min_four   -- for this text's walks alone
set_option linter.unusedVariables false
set_option linter.unusedSimpArgs false

/-! ### laws_sameInts: function 46 -/
def laws_sameInts.l0 : Nat → List Int → List Int → Int → Option (Bool)
 | 0, _, _, _ => none
 | k + 1, x0, x1, x5 => if x5 < (x0.length : Int) then (if 0 ≤ x5 then (if x5 < (x1.length : Int) then (if (rd x0 x5) = (rd x1 x5) then (laws_sameInts.l0 k x0 x1 (wrap64 (x5 + 1))) else (some false)) else (none)) else (none)) else (some true)
def laws_sameInts.f (k : Nat) (l0 : List Int) (l1 : List Int) : Option (Bool) := if (l0.length : Int) = (l1.length : Int) then (laws_sameInts.l0 k l0 l1 0) else (some false)
theorem laws_sameInts.mono_l : ∀ k, (∀ y0 y1 y2, LeO (laws_sameInts.l0 k y0 y1 y2) (laws_sameInts.l0 (k + 1) y0 y1 y2))
 | 0 => fun _ _ _ r h => by simp [laws_sameInts.l0] at h
 | k + 1 => by
  have ih0 := laws_sameInts.mono_l k
  ·
   intro y0 y1 y2
   unfold laws_sameInts.l0
   repeat' first
   | (with_reducible exact ih0 _ _ _)
   | (with_reducible exact LeO.refl _)
   | (with_reducible exact LeO.none _)
   | (with_reducible refine LeO.ite ?_ ?_)
   | (with_reducible refine LeO.bind ?_ (fun _ => ?_))
   | exact ih0 _ _ _
   | exact LeO.none _
   | refine LeO.ite ?_ ?_
   | refine LeO.bind ?_ (fun _ => ?_)
theorem laws_sameInts.mono : ∀ a0 a1 k, LeO (laws_sameInts.f k a0 a1) (laws_sameInts.f (k + 1) a0 a1) := by
 intro a0 a1 k
 have ih0 := laws_sameInts.mono_l k
 unfold laws_sameInts.f
 repeat' first
   | (with_reducible exact ih0 _ _ _)
   | (with_reducible exact LeO.refl _)
   | (with_reducible exact LeO.none _)
   | (with_reducible refine LeO.ite ?_ ?_)
   | (with_reducible refine LeO.bind ?_ (fun _ => ?_))
   | exact ih0 _ _ _
   | exact LeO.none _
   | refine LeO.ite ?_ ?_
   | refine LeO.bind ?_ (fun _ => ?_)
set_option maxHeartbeats 8000000 in
set_option maxRecDepth 100000 in
theorem laws_sameInts.calls (k : Nat) (A0 : Option Addr) (c0 : Nat) (l0 : List Int) (A1 : Option Addr) (c1 : Nat) (l1 : List Int) (r : Bool) (w : World) (hr0 : Kd.C (Kd.int .i64) w A0 l0.length l0) (hc0 : l0.length ≤ c0) (hr1 : Kd.C (Kd.int .i64) w A1 l1.length l1) (hc1 : l1.length ≤ c1) (h : laws_sameInts.f k l0 l1 = some r) :
  Calls Try.prog 46 #[.slice A0 l0.length c0, .slice A1 l1.length c1] w fun e w' => e = .returned (.bool r) ∧ Drawn0 w w' := by
 have HR0 := Aside0.mk hr0
 have HC0 := Aside0.mk hc0
 clear hr0 hc0
 have HR1 := Aside0.mk hr1
 have HC1 := Aside0.mk hc1
 clear hr1 hc1
 have H : (if (l0.length : Int) = (l1.length : Int) then (laws_sameInts.l0 k l0 l1 0) else (some false)) = some r := h
 clear h
 by_cases c3 : (l0.length : Int) = (l1.length : Int)
 ·
  rw [if_pos c3] at H
  have c3b0 : ((l0.length : Int) == (l1.length : Int)) = true := beq_iff_eq.mpr c3
  have c3b1 : ((l0.length : Int) != (l1.length : Int)) = false := bne_eq_false_iff_eq.mpr c3
  have c3b2 : (l0.length == l1.length) = true := by first | simpa using c3 | (simp at c3 ⊢; omega)
  clear c3
  have H' := Aside0.mk H
  clear H
  go_enter Try.func46, Try.ntmps46
  go_wp2
  repeat (go_quiet (fail); try go_wp2)
  go_loopg [5] k (fun kq v5 w' => ∃ (x5_1 : Int), v5 = .int .i64 x5_1 ∧ Aside0 (laws_sameInts.l0 kq l0 l1 x5_1 = some r) ∧ Aside0 (kq ≤ k) ∧ Drawn0 w w')
  case atStart => exact ⟨(0), (by first | rfl | (simp; done) | (simp [*]; done)), H', ⟨Nat.le_refl _⟩, by repeat (first | exact Drawn0.refl _ | apply Drawn0.step)⟩
  case round =>
   clear H'
   try clear c1
   try clear p2
   try clear c3
   try clear c3b0
   try clear c3b1
   try clear c3b2
   obtain ⟨x5_1, rfl, HA, HK1, ⟨m1, rfl⟩⟩ := hrel
   cases gk with
   | zero => exact absurd HA.out (by simp [laws_sameInts.l0])
   | succ k1 =>
    have H := HA.out
    clear HA
    simp only [laws_sameInts.l0] at H
    by_cases c4 : x5_1 < (l0.length : Int)
    ·
     rw [if_pos c4] at H
     have c4b0 : decide (x5_1 < (l0.length : Int)) = true := decide_eq_true c4
     clear c4
     by_cases c5 : 0 ≤ x5_1
     ·
      rw [if_pos c5] at H
      have c5b0 : decide (0 ≤ x5_1) = true := decide_eq_true c5
      clear c5
      by_cases c6 : x5_1 < (l1.length : Int)
      ·
       rw [if_pos c6] at H
       have c6b0 : decide (x5_1 < (l1.length : Int)) = true := decide_eq_true c6
       clear c6
       by_cases c7 : (rd l0 x5_1) = (rd l1 x5_1)
       ·
        rw [if_pos c7] at H
        have c7b0 : ((rd l0 x5_1) == (rd l1 x5_1)) = true := beq_iff_eq.mpr c7
        have c7b1 : ((rd l0 x5_1) != (rd l1 x5_1)) = false := bne_eq_false_iff_eq.mpr c7
        clear c7
        have H' := Aside0.mk H
        clear H
        have p101 : 0 ≤ (x5_1 : Int) := of_decide_eq_true (by first | (with_reducible assumption) | assumption)
        have q101 : x5_1 < (l0.length : Int) := of_decide_eq_true (by first | (with_reducible assumption) | assumption)
        obtain ⟨ad101, e101, hx101_0⟩ := Kd.at_int HR0.out x5_1 p101 q101
        cases e101
        replace p101 := eq_true p101
        replace q101 := eq_true q101
        have p102 : 0 ≤ (x5_1 : Int) := of_decide_eq_true (by first | (with_reducible assumption) | assumption)
        have q102 : x5_1 < (l1.length : Int) := of_decide_eq_true (by first | (with_reducible assumption) | assumption)
        obtain ⟨ad102, e102, hx102_0⟩ := Kd.at_int HR1.out x5_1 p102 q102
        cases e102
        replace p102 := eq_true p102
        replace q102 := eq_true q102
        go_wp2
        repeat (go_quiet (fail); try go_wp2)
        go_roundg k1
        case measure => have := HK1.out; omega
        case rel => exact ⟨(wrap64 (x5_1 + 1)), (by first | rfl | (simp; done) | (simp [*]; done)), H', ⟨by have := HK1.out; omega⟩, by repeat (first | exact Drawn0.refl _ | apply Drawn0.step)⟩
       ·
        rw [if_neg c7] at H
        have c7b0 : ((rd l0 x5_1) == (rd l1 x5_1)) = false := beq_eq_false_iff_ne.mpr c7
        have c7b1 : ((rd l0 x5_1) != (rd l1 x5_1)) = true := bne_iff_ne.mpr c7
        obtain rfl := Option.some.inj H
        have p101 : 0 ≤ (x5_1 : Int) := of_decide_eq_true (by first | (with_reducible assumption) | assumption)
        have q101 : x5_1 < (l0.length : Int) := of_decide_eq_true (by first | (with_reducible assumption) | assumption)
        obtain ⟨ad101, e101, hx101_0⟩ := Kd.at_int HR0.out x5_1 p101 q101
        cases e101
        replace p101 := eq_true p101
        replace q101 := eq_true q101
        have p102 : 0 ≤ (x5_1 : Int) := of_decide_eq_true (by first | (with_reducible assumption) | assumption)
        have q102 : x5_1 < (l1.length : Int) := of_decide_eq_true (by first | (with_reducible assumption) | assumption)
        obtain ⟨ad102, e102, hx102_0⟩ := Kd.at_int HR1.out x5_1 p102 q102
        cases e102
        replace p102 := eq_true p102
        replace q102 := eq_true q102
        go_wp2
        repeat (go_quiet (fail); try go_wp2)
        go_ret
        exact ⟨by first | rfl | (simp; done) | (simp [*]; done), by repeat (first | exact Drawn0.refl _ | apply Drawn0.step)⟩
      ·
       rw [if_neg c6] at H
       exact absurd H (by simp)
     ·
      rw [if_neg c5] at H
      exact absurd H (by simp)
    ·
     rw [if_neg c4] at H
     have c4b0 : decide (x5_1 < (l0.length : Int)) = false := decide_eq_false c4
     clear c4
     obtain rfl := Option.some.inj H
     go_wp2
     repeat (go_quiet (fail); try go_wp2)
     go_ret
     exact ⟨by first | rfl | (simp; done) | (simp [*]; done), by repeat (first | exact Drawn0.refl _ | apply Drawn0.step)⟩
 ·
  rw [if_neg c3] at H
  have c3b0 : ((l0.length : Int) == (l1.length : Int)) = false := beq_eq_false_iff_ne.mpr c3
  have c3b1 : ((l0.length : Int) != (l1.length : Int)) = true := bne_iff_ne.mpr c3
  have c3b2 : (l0.length == l1.length) = false := by first | simpa using c3 | (simp at c3 ⊢; omega)
  obtain rfl := Option.some.inj H
  go_enter Try.func46, Try.ntmps46
  go_wp2
  repeat (go_quiet (fail); try go_wp2)
  go_ret
  exact ⟨by first | rfl | (simp; done) | (simp [*]; done), by repeat (first | exact Drawn0.refl _ | apply Drawn0.step)⟩

end Go.Proofs.Ytfkecldlhngjhaa.XA

namespace Go.Proofs.Ytfkecldlhngjhaa.XA
open Go.RowKit Go.Proofs.YtfkecldlhngjhaaW.PrintWords Go.Proofs.YtfkecldlhngjhaaW.PrintLast Go.Proofs.YtfkecldlhngjhaaW.PrintMore
attribute [local go_sem] max2_int min2_int max_two min_two max_three min_three max_four min_four   -- for this text's walks alone
set_option linter.unusedVariables false
set_option linter.unusedSimpArgs false

/-! ### spec_DrawLockGood: function 47 -/
theorem qbf47 {P Q : Prop} (h : P) (f : P → Q := by intro h_; (with_reducible repeat (first | refine blk_drewN ?_ _ | refine blk_drew ?_ | refine blk_alloc ?_ _)); exact h_) : Q := f h
theorem qrf47 {P Q : Prop} (h : P) (f : P → Q := by intro h_; (with_reducible repeat (first | apply Kd.R_alloc | apply Kd.R_drewN | apply Kd.R_drew)); exact h_) : Q := f h
theorem qff47 {P : Prop} (f : P := by (try simp only [List.map_toArray, List.map_cons, List.map_nil]); first | done | rfl | (simp only [List.length_drop, List.length_take]; rfl)) : P := f
theorem qsf47 {P : Prop} (f : P := by simp only [Act.put, List.setIfInBounds_toArray, List.set_cons_zero, List.set_cons_succ, i64_w, i32_w]; rfl) : P := f
def rlf47g : Bool → List Nat → List Bool
 | _, [] => []
 | b, n :: ns => List.replicate n b ++ rlf47g (!b) ns
abbrev rlf47 (ns : List Nat) : Array Bool := (rlf47g true ns).toArray
theorem qw0f47 {P Q : Prop} (h : P) (f : P → Q := by intro h_; repeat (first | (with_reducible first | exact h_ | apply below_alloc | apply pw_below_drewN | apply below_drew1) | exact h_)) : Q := f h
theorem qw1f47 {P Q P0 : Prop} (h : P) (h0 : P0) (f : P → P0 → Q := by intro h_ g0_; repeat (first | (with_reducible first | exact h_ | apply below_alloc | apply pw_below_drewN | apply below_drew1 | refine below_set ?_ g0_) | exact h_)) : Q := f h h0
theorem q0f47 {P Q P0 P1 : Prop} (h : P) (h0 : P0) (h1 : P1) (f : P → P0 → P1 → Q := by intro h_ g1_ g2_; repeat (first | (with_reducible first | exact h_ | apply IsS73.alloc | apply IsS73.drewN | apply IsS73.drew | apply IsS73.set_1 | apply IsS73.set_2 | refine IsS73.far ?_ g1_ _ | refine IsS73.far ?_ g2_ _) | exact h_)) : Q := f h h0 h1
theorem q1f47 {P Q P0 P1 P2 : Prop} (h : P) (h0 : P0) (h1 : P1) (h2 : P2) (f : P → P0 → P1 → P2 → Q := by intro h_ g1_ g2_ g3_; repeat (first | (with_reducible first | exact h_ | apply below_alloc | apply pw_below_drewN | apply below_drew1 | refine below_set ?_ g1_ | refine below_set ?_ g2_ | refine below_set ?_ g3_) | exact h_)) : Q := f h h0 h1 h2
theorem q2f47 {P Q P0 P1 P2 P3 : Prop} (h : P) (h0 : P0) (h1 : P1) (h2 : P2) (h3 : P3) (f : P → P0 → P1 → P2 → P3 → Q := by intro h_ g1_ g2_ g3_ g4_; repeat (first | (with_reducible first | exact h_ | apply below_alloc | apply pw_below_drewN | apply below_drew1 | refine below_set ?_ g1_ | refine below_set ?_ g2_ | refine below_set ?_ g3_ | refine below_set ?_ g4_) | exact h_)) : Q := f h h0 h1 h2 h3
theorem q3f47 {P Q P0 P1 P2 : Prop} (h : P) (h0 : P0) (h1 : P1) (h2 : P2) (f : P → P0 → P1 → P2 → Q := by intro h_ g1_ g2_ g3_; repeat (first | (with_reducible first | exact h_ | apply IsS73.alloc | apply IsS73.drewN | apply IsS73.drew | apply IsS73.set_1 | apply IsS73.set_2 | refine IsS73.far ?_ g1_ _ | refine IsS73.far ?_ g2_ _ | refine IsS73.far ?_ g3_ _) | exact h_)) : Q := f h h0 h1 h2
theorem q4f47 {P Q P0 P1 P2 P3 : Prop} (h : P) (h0 : P0) (h1 : P1) (h2 : P2) (h3 : P3) (f : P → P0 → P1 → P2 → P3 → Q := by intro h_ g1_ g2_ g3_ g4_; repeat (first | (with_reducible first | exact h_ | apply IsS73.alloc | apply IsS73.drewN | apply IsS73.drew | apply IsS73.set_1 | apply IsS73.set_2 | refine IsS73.far ?_ g1_ _ | refine IsS73.far ?_ g2_ _ | refine IsS73.far ?_ g3_ _ | refine IsS73.far ?_ g4_ _) | exact h_)) : Q := f h h0 h1 h2 h3
theorem q5f47 {P Q P0 P1 P2 P3 P4 : Prop} (h : P) (h0 : P0) (h1 : P1) (h2 : P2) (h3 : P3) (h4 : P4) (f : P → P0 → P1 → P2 → P3 → P4 → Q := by intro h_ g1_ g2_ g3_ g4_ g5_; repeat (first | (with_reducible first | exact h_ | apply below_alloc | apply pw_below_drewN | apply below_drew1 | refine below_set ?_ g1_ | refine below_set ?_ g2_ | refine below_set ?_ g3_ | refine below_set ?_ g4_ | refine below_set ?_ g5_) | exact h_)) : Q := f h h0 h1 h2 h3 h4
theorem qlef47 {a b n : Nat} (hg : b = n) (h : a ≤ n) : a ≤ b := hg ▸ h
def spec_DrawLockGood.f (k : Nat) (l0 : List Int) : Option (Int × Int × Int × List Int × Int × Int) := (spec_l1New.f k l0).bind fun bt103 => ((spec_l21Rules.f bt103.1 bt103.2.1 bt103.2.2).bind fun bt107 => ((spec_l21Lock.f k bt103.1 bt107.2.2.2.1 bt107.2.2.2.2 bt107.1 bt107.2.1 bt107.2.2.1).bind fun bt113 => ((spec_l1Below.f bt103.1 bt113.2.2.1 bt113.2.2.2 70).bind fun bt120 => (some (bt107.1, bt107.2.1, bt107.2.2.1, bt113.1, bt113.2.1, bt120.1)))))
theorem spec_DrawLockGood.mono : ∀ a0 k, LeO (spec_DrawLockGood.f k a0) (spec_DrawLockGood.f (k + 1) a0) := by
 intro a0 k
 unfold spec_DrawLockGood.f
 repeat' first
   | (with_reducible exact spec_l1New.mono _ _)
   | (with_reducible exact spec_l21Lock.mono _ _ _ _ _ _ _)
   | (with_reducible exact LeO.refl _)
   | (with_reducible exact LeO.none _)
   | (with_reducible refine LeO.ite ?_ ?_)
   | (with_reducible refine LeO.bind ?_ (fun _ => ?_))
   | exact spec_l1New.mono _ _
   | exact spec_l21Lock.mono _ _ _ _ _ _ _
   | exact LeO.none _
   | refine LeO.ite ?_ ?_
   | refine LeO.bind ?_ (fun _ => ?_)
set_option maxHeartbeats 8000000 in
set_option maxRecDepth 100000 in
theorem spec_DrawLockGood.calls (k : Nat) (A0 : Option Addr) (c0 : Nat) (l0 : List Int) (r1 : Int) (r2 : Int) (r3 : Int) (r4 : List Int) (r5 : Int) (r6 : Int) (w : World) (hr0 : Kd.C (Kd.int .u8) w A0 l0.length l0) (hc0 : l0.length ≤ c0) (h : spec_DrawLockGood.f k l0 = some (r1, r2, r3, r4, r5, r6)) :
  Calls Try.prog 47 #[.slice A0 l0.length c0] w fun e w' => ∃ v3_ : Value, e = .returned (.tuple #[.agg #[.int .i64 r1, .int .i64 r2, .int .i64 r3], .agg #[v3_, .int .i64 r5], .int .i64 r6]) ∧ Kd.R (Kd.int .i64) 3 w' w.heap.size (fun _ => True) v3_ r4 ∧ Below w.heap.size w w' := by
 have hu40 := Try.underlying40
 have hu30 := Try.underlying30
 have HR0 := Aside0.mk hr0
 have HC0 := Aside0.mk hc0
 clear hr0 hc0
 have HB := Aside0.mk (Below.refl w.heap.size w)
 have H : ((spec_l1New.f k l0).bind fun bt103 => ((spec_l21Rules.f bt103.1 bt103.2.1 bt103.2.2).bind fun bt107 => ((spec_l21Lock.f k bt103.1 bt107.2.2.2.1 bt107.2.2.2.2 bt107.1 bt107.2.1 bt107.2.2.1).bind fun bt113 => ((spec_l1Below.f bt103.1 bt113.2.2.1 bt113.2.2.2 70).bind fun bt120 => (some (bt107.1, bt107.2.1, bt107.2.2.1, bt113.1, bt113.2.1, bt120.1)))))) = some (r1, r2, r3, r4, r5, r6) := h
 clear h
 replace H := Option.bind_eq_some_iff.mp H
 obtain ⟨⟨t103, t104, t105⟩, A20, H⟩ := H
 replace H : ((spec_l21Rules.f t103 t104 t105).bind fun bt107 => ((spec_l21Lock.f k t103 bt107.2.2.2.1 bt107.2.2.2.2 bt107.1 bt107.2.1 bt107.2.2.1).bind fun bt113 => ((spec_l1Below.f t103 bt113.2.2.1 bt113.2.2.2 70).bind fun bt120 => (some (bt107.1, bt107.2.1, bt107.2.2.1, bt113.1, bt113.2.1, bt120.1))))) = some (r1, r2, r3, r4, r5, r6) := H
 have A2 := Aside0.mk A20
 clear A20
 replace H := Option.bind_eq_some_iff.mp H
 obtain ⟨⟨t107, t108, t109, t110, t111⟩, A30, H⟩ := H
 replace H : ((spec_l21Lock.f k t103 t110 t111 t107 t108 t109).bind fun bt113 => ((spec_l1Below.f t103 bt113.2.2.1 bt113.2.2.2 70).bind fun bt120 => (some (t107, t108, t109, bt113.1, bt113.2.1, bt120.1)))) = some (r1, r2, r3, r4, r5, r6) := H
 have A3 := Aside0.mk A30
 clear A30
 replace H := Option.bind_eq_some_iff.mp H
 obtain ⟨⟨t113, t116, t117, t118⟩, A40, H⟩ := H
 replace H : ((spec_l1Below.f t103 t117 t118 70).bind fun bt120 => (some (t107, t108, t109, t113, t116, bt120.1))) = some (r1, r2, r3, r4, r5, r6) := H
 have A4 := Aside0.mk A40
 clear A40
 replace H := Option.bind_eq_some_iff.mp H
 obtain ⟨⟨t120, t121, t122⟩, A50, H⟩ := H
 replace H : (some (t107, t108, t109, t113, t116, t120)) = some (r1, r2, r3, r4, r5, r6) := H
 have A5 := Aside0.mk A50
 clear A50
 simp only [Option.some.injEq, Prod.mk.injEq] at H
 obtain ⟨rfl, rfl, rfl, rfl, rfl, rfl⟩ := H
 go_enter Try.func47, Try.ntmps47
 try go_wp2_with (first | ((with_reducible refine gate_dst (N := 2) rfl ?_); refine box_event ?hg (N := 2) ?hd (cs := #[.int .i64 0, .int .i64 0, .int .i64 0]) (t := 40) ?hr ?_; (case hd => rfl); (case hg => rfl); (case hr => first | (go_simp; done) | (go_simp; rfl)); intro gb101 hg w6 hbox hb; have n0_ := Aside0.mk (below_step (qw0f47 HB.out) hb); have n1_ := Aside0.mk (hbox); have n2_ := Aside0.mk ((qlef47 hg (below_size (qw0f47 HB.out)))); have n3_ := Aside0.mk ((qlef47 hg (below_size (qw0f47 HB.out)))); clear HB; have HB := n0_; have BK101 := n1_; have GW101 := n2_; have GE101 := n3_; clear n0_ n1_ n2_ n3_; clear hb hbox hg) | ((with_reducible refine gate_dst (N := 3) rfl ?_); refine box_event ?hg (N := 3) ?hd (cs := #[.slice none 0 0, .int .i64 0]) (t := 30) ?hr ?_; (case hd => rfl); (case hg => rfl); (case hr => first | (go_simp; done) | (go_simp; rfl)); intro gb102 hg w7 hbox hb; have n0_ := Aside0.mk (blk_below (g := gb101) (qbf47 BK101.out) hb); have n1_ := Aside0.mk (below_step (qw1f47 HB.out GE101.out) hb); have n2_ := Aside0.mk (hbox); have n3_ := Aside0.mk ((qlef47 hg (below_size (qw1f47 HB.out GE101.out)))); have n4_ := Aside0.mk ((qlef47 hg (below_size (qw1f47 HB.out GE101.out)))); have n5_ := Aside0.mk ((by rw [hg]; exact Nat.ne_of_lt (blk_lt (g := gb101) (qbf47 BK101.out)) : gb101 ≠ gb102)); have n6_ := Aside0.mk ((by rw [hg]; exact Nat.ne_of_gt (blk_lt (g := gb101) (qbf47 BK101.out)) : gb102 ≠ gb101)); clear BK101; clear HB; have BK101 := n0_; have HB := n1_; have BK102 := n2_; have GW102 := n3_; have GE102 := n4_; have NB101_102 := n5_; have NB102_101 := n6_; clear n0_ n1_ n2_ n3_ n4_ n5_ n6_; clear hb hbox hg) | ((with_reducible refine gate_callee (f := 63) rfl ?_); refine goesL_ (some 9) rfl rfl Try.func63 (by kernel_rfl) rfl #[.slice A0 l0.length c0] rfl qff47 ?_; (with_reducible refine (spec_l1New.calls k _ _ l0 t103 t104 t105 w _ ?side1 ?side2 ?side3 A2.out).mono ?_); (case side1 => repeat (first | (with_reducible first | exact HB.out | apply below_alloc | apply pw_below_drewN | apply below_drew1 | refine below_set ?_ GE101.out | refine below_set ?_ GE102.out) | exact HB.out)); (case side2 => exact HR0.out); (case side3 => exact HC0.out); rintro e w8 ⟨g106, rfl, hi, hb, hb2⟩; refine ⟨_, rfl, ?_⟩; have n0_ := Aside0.mk (blk_below (g := gb101) (qbf47 BK101.out) hb2); have n1_ := Aside0.mk (blk_below (g := gb102) (qbf47 BK102.out) hb2); have n2_ := Aside0.mk (hb); have n3_ := Aside0.mk (hi); have n4_ := Aside0.mk (IsS73.ne_blk hi (blk_below (g := gb101) (qbf47 BK101.out) hb2) (by decide)); have n5_ := Aside0.mk (Ne.symm (IsS73.ne_blk hi (blk_below (g := gb101) (qbf47 BK101.out) hb2) (by decide))); have n6_ := Aside0.mk (IsS73.ne_blk hi (blk_below (g := gb102) (qbf47 BK102.out) hb2) (by decide)); have n7_ := Aside0.mk (Ne.symm (IsS73.ne_blk hi (blk_below (g := gb102) (qbf47 BK102.out) hb2) (by decide))); clear BK101; clear BK102; clear HB; have BK101 := n0_; have BK102 := n1_; have HB := n2_; have HI106 := n3_; have NB106_101 := n4_; have NB101_106 := n5_; have NB106_102 := n6_; have NB102_106 := n7_; clear n0_ n1_ n2_ n3_ n4_ n5_ n6_ n7_; (try clear hb); (try clear hb2); (try clear hk); (try clear hi)) | ((with_reducible refine gate_callee (f := 64) rfl ?_); refine goesL_ (some 11) rfl rfl Try.func64 (by kernel_rfl) rfl #[.pointer (some ⟨g106, 0, none⟩)] rfl qff47 ?_; (with_reducible refine (spec_l21Rules.calls g106 t103 t104 t105 t107 t108 t109 t110 t111 w _ ?side1 ?side2 A3.out).mono ?_); (case side1 => repeat (first | (with_reducible first | exact HI106.out | apply IsS73.alloc | apply IsS73.drewN | apply IsS73.drew | apply IsS73.set_1 | apply IsS73.set_2 | refine IsS73.far ?_ NB106_101.out _ | refine IsS73.far ?_ NB106_102.out _) | exact HI106.out)); (case side2 => repeat (first | (with_reducible first | exact HB.out | apply below_alloc | apply pw_below_drewN | apply below_drew1 | refine below_set ?_ (IsS73.ge HI106.out) | refine below_set ?_ GE101.out | refine below_set ?_ GE102.out) | exact HB.out)); rintro e w9 ⟨rfl, hi, hb, hk⟩; refine ⟨_, rfl, ?_⟩; have n0_ := Aside0.mk (KeepBut.blk hk (g' := gb101) (o := .cells #[.int .i64 0, .int .i64 0, .int .i64 0] 40 (0, 0)) (qbf47 BK101.out) NB101_106.out (by simp)); have n1_ := Aside0.mk (KeepBut.blk hk (g' := gb102) (o := .cells #[.slice none 0 0, .int .i64 0] 30 (0, 0)) (qbf47 BK102.out) NB102_106.out (by simp)); have n2_ := Aside0.mk (hb); have n3_ := Aside0.mk (hi); clear BK101; clear BK102; clear HB; clear HI106; have BK101 := n0_; have BK102 := n1_; have HB := n2_; have HI106 := n3_; clear n0_ n1_ n2_ n3_; (try clear hb); (try clear hb2); (try clear hk); (try clear hi)) | ((with_reducible refine gate_dst (N := 6) rfl ?_); refine box_event ?hg (N := 6) ?hd (cs := #[.int .i64 0, .int .i64 0, .int .i64 0]) (t := 40) ?hr ?_; (case hd => rfl); (case hg => rfl); (case hr => first | (go_simp; done) | (go_simp; rfl)); intro gb112 hg w10 hbox hb; have n0_ := Aside0.mk (blk_below (g := gb101) (qbf47 BK101.out) hb); have n1_ := Aside0.mk (blk_below (g := gb102) (qbf47 BK102.out) hb); have n2_ := Aside0.mk (IsS73.below (q0f47 HI106.out NB106_101.out NB106_102.out) hb); have n3_ := Aside0.mk (below_step (q1f47 HB.out (IsS73.ge HI106.out) GE101.out GE102.out) hb); have n4_ := Aside0.mk (hbox); have n5_ := Aside0.mk ((qlef47 hg (below_size (q1f47 HB.out (IsS73.ge HI106.out) GE101.out GE102.out)))); have n6_ := Aside0.mk ((qlef47 hg (below_size (q1f47 HB.out (IsS73.ge HI106.out) GE101.out GE102.out)))); have n7_ := Aside0.mk ((by rw [hg]; exact Nat.ne_of_lt (blk_lt (g := gb101) (qbf47 BK101.out)) : gb101 ≠ gb112)); have n8_ := Aside0.mk ((by rw [hg]; exact Nat.ne_of_gt (blk_lt (g := gb101) (qbf47 BK101.out)) : gb112 ≠ gb101)); have n9_ := Aside0.mk ((by rw [hg]; exact Nat.ne_of_lt (blk_lt (g := gb102) (qbf47 BK102.out)) : gb102 ≠ gb112)); have n10_ := Aside0.mk ((by rw [hg]; exact Nat.ne_of_gt (blk_lt (g := gb102) (qbf47 BK102.out)) : gb112 ≠ gb102)); have n11_ := Aside0.mk ((by rw [hg]; exact Nat.ne_of_lt (IsS73.lt (show IsS73 w _ g106 t103 t110 t111 from (q0f47 HI106.out NB106_101.out NB106_102.out))) : g106 ≠ gb112)); have n12_ := Aside0.mk ((by rw [hg]; exact Nat.ne_of_gt (IsS73.lt (show IsS73 w _ g106 t103 t110 t111 from (q0f47 HI106.out NB106_101.out NB106_102.out))) : gb112 ≠ g106)); clear BK101; clear BK102; clear HI106; clear HB; have BK101 := n0_; have BK102 := n1_; have HI106 := n2_; have HB := n3_; have BK112 := n4_; have GW112 := n5_; have GE112 := n6_; have NB101_112 := n7_; have NB112_101 := n8_; have NB102_112 := n9_; have NB112_102 := n10_; have NB106_112 := n11_; have NB112_106 := n12_; clear n0_ n1_ n2_ n3_ n4_ n5_ n6_ n7_ n8_ n9_ n10_ n11_ n12_; clear hb hbox hg; have hnb11 := NB112_101.out; have hnc11 := NB101_112.out; have hnb12 := NB112_102.out; have hnc12 := NB102_112.out; have hnb13 := NB112_106.out; have hnc13 := NB106_112.out; have hcz14_0 : w10.cell? ⟨gb112, 0, none⟩ = some (.int .i64 0) := (blk_cell BK112.out 0).trans rfl; have hcz14_1 : w10.cell? ⟨gb112, 1, none⟩ = some (.int .i64 0) := (blk_cell BK112.out 1).trans rfl; have hcz14_2 : w10.cell? ⟨gb112, 2, none⟩ = some (.int .i64 0) := (blk_cell BK112.out 2).trans rfl; have hfz14_0 := blk_frozen BK112.out 0; have hfz14_1 := blk_frozen BK112.out 1; have hfz14_2 := blk_frozen BK112.out 2) | ((with_reducible refine gate_callee (f := 65) rfl ?_); refine goesL_ (some 14) rfl rfl Try.func65 (by kernel_rfl) rfl #[.pointer (some ⟨g106, 0, none⟩), .agg #[.int .i64 t107, .int .i64 t108, .int .i64 t109]] rfl qff47 ?_; (with_reducible refine (spec_l21Lock.calls k g106 t103 t110 t111 t107 t108 t109 t113 t116 t117 t118 w _ ?side1 ?side2 A4.out).mono ?_); (case side1 => repeat (first | (with_reducible first | exact HI106.out | apply IsS73.alloc | apply IsS73.drewN | apply IsS73.drew | apply IsS73.set_1 | apply IsS73.set_2 | refine IsS73.far ?_ NB106_101.out _ | refine IsS73.far ?_ NB106_102.out _ | refine IsS73.far ?_ NB106_112.out _) | exact HI106.out)); (case side2 => repeat (first | (with_reducible first | exact HB.out | apply below_alloc | apply pw_below_drewN | apply below_drew1 | refine below_set ?_ (IsS73.ge HI106.out) | refine below_set ?_ GE101.out | refine below_set ?_ GE102.out | refine below_set ?_ GE112.out) | exact HB.out)); rintro e w15 ⟨v114, rfl, ho0, hi, hb, hk⟩; refine ⟨_, rfl, ?_⟩; have n0_ := Aside0.mk (KeepBut.blk hk (g' := gb101) (o := .cells #[.int .i64 0, .int .i64 0, .int .i64 0] 40 (0, 0)) (by (with_reducible repeat (first | refine blk_drewN ?_ _ | refine blk_drew ?_ | refine blk_alloc ?_ _)); refine blk_far ?_ NB101_112.out _; (with_reducible repeat (first | refine blk_drewN ?_ _ | refine blk_drew ?_ | refine blk_alloc ?_ _)); refine blk_far ?_ NB101_112.out _; (with_reducible repeat (first | refine blk_drewN ?_ _ | refine blk_drew ?_ | refine blk_alloc ?_ _)); refine blk_far ?_ NB101_112.out _; (with_reducible repeat (first | refine blk_drewN ?_ _ | refine blk_drew ?_ | refine blk_alloc ?_ _)); exact BK101.out) NB101_106.out (by simp)); have n1_ := Aside0.mk (KeepBut.blk hk (g' := gb102) (o := .cells #[.slice none 0 0, .int .i64 0] 30 (0, 0)) (by (with_reducible repeat (first | refine blk_drewN ?_ _ | refine blk_drew ?_ | refine blk_alloc ?_ _)); refine blk_far ?_ NB102_112.out _; (with_reducible repeat (first | refine blk_drewN ?_ _ | refine blk_drew ?_ | refine blk_alloc ?_ _)); refine blk_far ?_ NB102_112.out _; (with_reducible repeat (first | refine blk_drewN ?_ _ | refine blk_drew ?_ | refine blk_alloc ?_ _)); refine blk_far ?_ NB102_112.out _; (with_reducible repeat (first | refine blk_drewN ?_ _ | refine blk_drew ?_ | refine blk_alloc ?_ _)); exact BK102.out) NB102_106.out (by simp)); have n2_ := Aside0.mk (KeepBut.blk hk (g' := gb112) (o := .cells #[.int .i64 t107, .int .i64 t108, .int .i64 t109] 40 (0, 0)) (by (with_reducible repeat (first | refine blk_drewN ?_ _ | refine blk_drew ?_ | refine blk_alloc ?_ _)); refine blk_put (cs := #[.int .i64 t107, .int .i64 t108, .int .i64 0]) ?_ 2 _ rfl; (with_reducible repeat (first | refine blk_drewN ?_ _ | refine blk_drew ?_ | refine blk_alloc ?_ _)); refine blk_put (cs := #[.int .i64 t107, .int .i64 0, .int .i64 0]) ?_ 1 _ rfl; (with_reducible repeat (first | refine blk_drewN ?_ _ | refine blk_drew ?_ | refine blk_alloc ?_ _)); refine blk_put (cs := #[.int .i64 0, .int .i64 0, .int .i64 0]) ?_ 0 _ rfl; (with_reducible repeat (first | refine blk_drewN ?_ _ | refine blk_drew ?_ | refine blk_alloc ?_ _)); exact BK112.out) NB112_106.out (by simp)); have n3_ := Aside0.mk (Kd.R_lower ho0 (below_size (q2f47 HB.out (IsS73.ge HI106.out) GE101.out GE102.out GE112.out))); have n4_ := Aside0.mk (hb); have n5_ := Aside0.mk (hi); clear BK101; clear BK102; clear BK112; clear HB; clear HI106; have BK101 := n0_; have BK102 := n1_; have BK112 := n2_; have HO115 := n3_; have HB := n4_; have HI106 := n5_; clear n0_ n1_ n2_ n3_ n4_ n5_; (try clear hb); (try clear hb2); (try clear hk); (try clear hi); (try clear ho0)) | ((with_reducible refine gate_dst (N := 7) rfl ?_); refine box_event ?hg (N := 7) ?hd (cs := #[.slice none 0 0, .int .i64 0]) (t := 30) ?hr ?_; (case hd => rfl); (case hg => rfl); (case hr => first | (go_simp; done) | (go_simp; rfl)); intro gb119 hg w16 hbox hb; have n0_ := Aside0.mk (Kd.R_below (qrf47 HO115.out) hb); have n1_ := Aside0.mk (blk_below (g := gb101) (qbf47 BK101.out) hb); have n2_ := Aside0.mk (blk_below (g := gb102) (qbf47 BK102.out) hb); have n3_ := Aside0.mk (IsS73.below (q3f47 HI106.out NB106_101.out NB106_102.out NB106_112.out) hb); have n4_ := Aside0.mk (blk_below (g := gb112) (qbf47 BK112.out) hb); have n5_ := Aside0.mk (below_step (q2f47 HB.out (IsS73.ge HI106.out) GE101.out GE102.out GE112.out) hb); have n6_ := Aside0.mk (hbox); have n7_ := Aside0.mk ((qlef47 hg (below_size (q2f47 HB.out (IsS73.ge HI106.out) GE101.out GE102.out GE112.out)))); have n8_ := Aside0.mk ((qlef47 hg (below_size (q2f47 HB.out (IsS73.ge HI106.out) GE101.out GE102.out GE112.out)))); have n9_ := Aside0.mk ((by rw [hg]; exact Nat.ne_of_lt (blk_lt (g := gb101) (qbf47 BK101.out)) : gb101 ≠ gb119)); have n10_ := Aside0.mk ((by rw [hg]; exact Nat.ne_of_gt (blk_lt (g := gb101) (qbf47 BK101.out)) : gb119 ≠ gb101)); have n11_ := Aside0.mk ((by rw [hg]; exact Nat.ne_of_lt (blk_lt (g := gb102) (qbf47 BK102.out)) : gb102 ≠ gb119)); have n12_ := Aside0.mk ((by rw [hg]; exact Nat.ne_of_gt (blk_lt (g := gb102) (qbf47 BK102.out)) : gb119 ≠ gb102)); have n13_ := Aside0.mk ((by rw [hg]; exact Nat.ne_of_lt (blk_lt (g := gb112) (qbf47 BK112.out)) : gb112 ≠ gb119)); have n14_ := Aside0.mk ((by rw [hg]; exact Nat.ne_of_gt (blk_lt (g := gb112) (qbf47 BK112.out)) : gb119 ≠ gb112)); have n15_ := Aside0.mk ((by rw [hg]; exact Nat.ne_of_lt (IsS73.lt (show IsS73 w _ g106 t103 t117 t118 from (q3f47 HI106.out NB106_101.out NB106_102.out NB106_112.out))) : g106 ≠ gb119)); have n16_ := Aside0.mk ((by rw [hg]; exact Nat.ne_of_gt (IsS73.lt (show IsS73 w _ g106 t103 t117 t118 from (q3f47 HI106.out NB106_101.out NB106_102.out NB106_112.out))) : gb119 ≠ g106)); clear HO115; clear BK101; clear BK102; clear HI106; clear BK112; clear HB; have HO115 := n0_; have BK101 := n1_; have BK102 := n2_; have HI106 := n3_; have BK112 := n4_; have HB := n5_; have BK119 := n6_; have GW119 := n7_; have GE119 := n8_; have NB101_119 := n9_; have NB119_101 := n10_; have NB102_119 := n11_; have NB119_102 := n12_; have NB112_119 := n13_; have NB119_112 := n14_; have NB106_119 := n15_; have NB119_106 := n16_; clear n0_ n1_ n2_ n3_ n4_ n5_ n6_ n7_ n8_ n9_ n10_ n11_ n12_ n13_ n14_ n15_ n16_; clear hb hbox hg; obtain ⟨Ao17, co17, eo17⟩ := Kd.R_slice HO115.out; subst eo17; have hnb18 := NB119_101.out; have hnc18 := NB101_119.out; have hnb19 := NB119_102.out; have hnc19 := NB102_119.out; have hnb20 := NB119_112.out; have hnc20 := NB112_119.out; have hnb21 := NB119_106.out; have hnc21 := NB106_119.out; have hcz22_0 : w16.cell? ⟨gb119, 0, none⟩ = some (.slice none 0 0) := (blk_cell BK119.out 0).trans rfl; have hcz22_1 : w16.cell? ⟨gb119, 1, none⟩ = some (.int .i64 0) := (blk_cell BK119.out 1).trans rfl; have hfz22_0 := blk_frozen BK119.out 0; have hfz22_1 := blk_frozen BK119.out 1))
 have n0_ : Aside0 (Kd.R (Kd.int .i64) 3 ((w16.setCell ⟨gb119, 0, none⟩ (.slice Ao17 t113.length co17)).setCell ⟨gb119, 1, none⟩ (.int .i64 t116)) w.heap.size (fun _ => True) (.slice Ao17 t113.length co17) t113) := ⟨by (with_reducible repeat (first | apply Kd.R_alloc | apply Kd.R_drewN | apply Kd.R_drew)); exact Kd.R_mono (Kd.R_far (p := ⟨gb119, 1, none⟩) (Kd.R_far (p := ⟨gb119, 0, none⟩) (Kd.R_types HO115.out BK119.out (by decide)) (fun _ hk => hk.2) (.slice Ao17 t113.length co17)) (fun _ hk => hk.2) (.int .i64 t116)) (fun _ hk => trivial)⟩
 have n1_ : Aside0 (((w16.setCell ⟨gb119, 0, none⟩ (.slice Ao17 t113.length co17)).setCell ⟨gb119, 1, none⟩ (.int .i64 t116)).heap[gb101]? = some (.cells #[.int .i64 0, .int .i64 0, .int .i64 0] 40 (0, 0))) := ⟨by (with_reducible repeat (first | refine blk_drewN ?_ _ | refine blk_drew ?_ | refine blk_alloc ?_ _)); refine blk_far ?_ NB101_119.out _; (with_reducible repeat (first | refine blk_drewN ?_ _ | refine blk_drew ?_ | refine blk_alloc ?_ _)); refine blk_far ?_ NB101_119.out _; (with_reducible repeat (first | refine blk_drewN ?_ _ | refine blk_drew ?_ | refine blk_alloc ?_ _)); exact BK101.out⟩
 have n2_ : Aside0 (((w16.setCell ⟨gb119, 0, none⟩ (.slice Ao17 t113.length co17)).setCell ⟨gb119, 1, none⟩ (.int .i64 t116)).heap[gb102]? = some (.cells #[.slice none 0 0, .int .i64 0] 30 (0, 0))) := ⟨by (with_reducible repeat (first | refine blk_drewN ?_ _ | refine blk_drew ?_ | refine blk_alloc ?_ _)); refine blk_far ?_ NB102_119.out _; (with_reducible repeat (first | refine blk_drewN ?_ _ | refine blk_drew ?_ | refine blk_alloc ?_ _)); refine blk_far ?_ NB102_119.out _; (with_reducible repeat (first | refine blk_drewN ?_ _ | refine blk_drew ?_ | refine blk_alloc ?_ _)); exact BK102.out⟩
 have n3_ : Aside0 (((w16.setCell ⟨gb119, 0, none⟩ (.slice Ao17 t113.length co17)).setCell ⟨gb119, 1, none⟩ (.int .i64 t116)).heap[gb112]? = some (.cells #[.int .i64 t107, .int .i64 t108, .int .i64 t109] 40 (0, 0))) := ⟨by (with_reducible repeat (first | refine blk_drewN ?_ _ | refine blk_drew ?_ | refine blk_alloc ?_ _)); refine blk_far ?_ NB112_119.out _; (with_reducible repeat (first | refine blk_drewN ?_ _ | refine blk_drew ?_ | refine blk_alloc ?_ _)); refine blk_far ?_ NB112_119.out _; (with_reducible repeat (first | refine blk_drewN ?_ _ | refine blk_drew ?_ | refine blk_alloc ?_ _)); exact BK112.out⟩
 have n4_ : Aside0 (((w16.setCell ⟨gb119, 0, none⟩ (.slice Ao17 t113.length co17)).setCell ⟨gb119, 1, none⟩ (.int .i64 t116)).heap[gb119]? = some (.cells #[.slice Ao17 t113.length co17, .int .i64 t116] 30 (0, 0))) := ⟨by (with_reducible repeat (first | refine blk_drewN ?_ _ | refine blk_drew ?_ | refine blk_alloc ?_ _)); refine blk_put (cs := #[.slice Ao17 t113.length co17, .int .i64 0]) ?_ 1 _ rfl; (with_reducible repeat (first | refine blk_drewN ?_ _ | refine blk_drew ?_ | refine blk_alloc ?_ _)); refine blk_put (cs := #[.slice none 0 0, .int .i64 0]) ?_ 0 _ rfl; (with_reducible repeat (first | refine blk_drewN ?_ _ | refine blk_drew ?_ | refine blk_alloc ?_ _)); exact BK119.out⟩
 have n5_ : Aside0 (IsS73 w ((w16.setCell ⟨gb119, 0, none⟩ (.slice Ao17 t113.length co17)).setCell ⟨gb119, 1, none⟩ (.int .i64 t116)) g106 t103 t117 t118) := ⟨(q4f47 HI106.out NB106_101.out NB106_102.out NB106_112.out NB106_119.out)⟩
 have n6_ : Aside0 (Below w.heap.size w ((w16.setCell ⟨gb119, 0, none⟩ (.slice Ao17 t113.length co17)).setCell ⟨gb119, 1, none⟩ (.int .i64 t116))) := ⟨(q5f47 HB.out (IsS73.ge HI106.out) GE101.out GE102.out GE112.out GE119.out)⟩
 (try clear HO115)
 (try clear BK101)
 (try clear BK102)
 (try clear BK112)
 (try clear BK119)
 (try clear HI106)
 (try clear HB)
 generalize ((w16.setCell ⟨gb119, 0, none⟩ (.slice Ao17 t113.length co17)).setCell ⟨gb119, 1, none⟩ (.int .i64 t116)) = w23 at n0_ n1_ n2_ n3_ n4_ n5_ n6_ ⊢
 have HO115 := n0_
 have BK101 := n1_
 have BK102 := n2_
 have BK112 := n3_
 have BK119 := n4_
 have HI106 := n5_
 have HB := n6_
 clear n0_ n1_ n2_ n3_ n4_ n5_ n6_
 have n0_ := Aside0.mk (Kd.R_drew HO115.out)
 have n1_ := Aside0.mk (blk_drew BK101.out)
 have n2_ := Aside0.mk (blk_drew BK102.out)
 have n3_ := Aside0.mk (blk_drew BK112.out)
 have n4_ := Aside0.mk (blk_drew BK119.out)
 have n5_ := Aside0.mk (IsS73.drew HI106.out)
 have n6_ := Aside0.mk (below_drew1 HB.out)
 clear HO115
 clear BK101
 clear BK102
 clear BK112
 clear BK119
 clear HI106
 clear HB
 have HO115 := n0_
 have BK101 := n1_
 have BK102 := n2_
 have BK112 := n3_
 have BK119 := n4_
 have HI106 := n5_
 have HB := n6_
 clear n0_ n1_ n2_ n3_ n4_ n5_ n6_
 refine start_ (n := 7) (S := fun w' => w'.cell? ⟨gb112, 0, none⟩ = some (.int .i64 t107) ∧ w'.cell? ⟨gb112, 1, none⟩ = some (.int .i64 t108) ∧ w'.cell? ⟨gb112, 2, none⟩ = some (.int .i64 t109) ∧ w'.cell? ⟨gb119, 0, none⟩ = some (.slice Ao17 t113.length co17) ∧ w'.cell? ⟨gb119, 1, none⟩ = some (.int .i64 t116)) (ds := []) (rlf47 [0, 7]) (by kernel_rfl) rfl rfl ⟨(blk_cell BK112.out 0).trans rfl, (blk_cell BK112.out 1).trans rfl, (blk_cell BK112.out 2).trans rfl, (blk_cell BK119.out 0).trans rfl, (blk_cell BK119.out 1).trans rfl⟩ (fun hHeld => ?_)
 generalize w23.drew = w24 at HO115 BK101 BK102 BK112 BK119 HI106 HB hHeld ⊢
 refine pure_ (i := 2) (N := some 17) (v := ?_) (a' := ?_) (rlf47 [0, 2, 1, 4]) rfl rfl (by kernel_rfl) (fun _ _ _ h => h) (Or.inl ⟨by rfl, ?_⟩) ?_ ?_
 rotate_left
 ·
  intro w'
  go_simp
  with_reducible rfl
 rotate_left
 ·
  exact qsf47
 refine take_ (i := 0) (N := some 15) (v := ?_) (a' := ?_) (rlf47 [1, 1, 1, 4]) rfl rfl (by kernel_rfl) (fun _ _ _ h => h) (Or.inl ⟨by rfl, ?_⟩) hHeld ?_ ?_
 rotate_left
 ·
  rintro w' ⟨s0, s1, s2, s3, s4⟩
  go_simp
  with_reducible rfl
 rotate_left
 ·
  exact qsf47
 refine take_ (i := 1) (N := some 16) (v := ?_) (a' := ?_) (rlf47 [3, 4]) rfl rfl (by kernel_rfl) (fun _ _ _ h => h) (Or.inl ⟨by rfl, ?_⟩) hHeld ?_ ?_
 rotate_left
 ·
  rintro w' ⟨s0, s1, s2, s3, s4⟩
  go_simp
  with_reducible rfl
 rotate_left
 ·
  exact qsf47
 refine one_ (i := 3) (N := some 18) (rlf47 [4, 3]) rfl rfl (by kernel_rfl) (by decide) (fun K hK => ?_)
 refine goes_ Try.func67 (by kernel_rfl) rfl #[.pointer (some ⟨g106, 0, none⟩), .int .i64 70] (by rfl) rfl rfl qff47 ?_
 with_reducible refine (spec_l1Below.calls g106 t103 t117 t118 70 t120 t121 t122 w _ ?side1 ?side2 A5.out).mono ?_
 (case side1 => repeat (first | (with_reducible first | exact HI106.out | apply IsS73.alloc | apply IsS73.drewN | apply IsS73.drew | apply IsS73.set_1 | apply IsS73.set_2 | refine IsS73.far ?_ NB106_101.out _ | refine IsS73.far ?_ NB106_102.out _ | refine IsS73.far ?_ NB106_112.out _ | refine IsS73.far ?_ NB106_119.out _) | exact HI106.out))
 (case side2 => repeat (first | (with_reducible first | exact HB.out | apply below_alloc | apply pw_below_drewN | apply below_drew1 | refine below_set ?_ (IsS73.ge HI106.out) | refine below_set ?_ GE101.out | refine below_set ?_ GE102.out | refine below_set ?_ GE112.out | refine below_set ?_ GE119.out) | exact HB.out))
 rintro e w25 ⟨rfl, hi, hb, hk⟩
 refine ⟨_, rfl, ?_⟩
 have n0_ := Aside0.mk (KeepBut.blk hk (g' := gb101) (o := .cells #[.int .i64 0, .int .i64 0, .int .i64 0] 40 (0, 0)) (qbf47 BK101.out) NB101_106.out (by simp))
 have n1_ := Aside0.mk (KeepBut.blk hk (g' := gb102) (o := .cells #[.slice none 0 0, .int .i64 0] 30 (0, 0)) (qbf47 BK102.out) NB102_106.out (by simp))
 have n2_ := Aside0.mk (KeepBut.blk hk (g' := gb112) (o := .cells #[.int .i64 t107, .int .i64 t108, .int .i64 t109] 40 (0, 0)) (qbf47 BK112.out) NB112_106.out (by simp))
 have n3_ := Aside0.mk (Kd.R_mono (Kd.R_keep (IsS73.apart (show IsS73 w _ g106 t103 t117 t118 from (q4f47 HI106.out NB106_101.out NB106_102.out NB106_112.out NB106_119.out)) (qrf47 HO115.out) (by decide)) hk (fun _ h => h.2)) (fun _ h => h.1))
 have n4_ := Aside0.mk (KeepBut.blk hk (g' := gb119) (o := .cells #[.slice Ao17 t113.length co17, .int .i64 t116] 30 (0, 0)) (qbf47 BK119.out) NB119_106.out (by simp))
 have n5_ := Aside0.mk (hb)
 have n6_ := Aside0.mk (hi)
 clear BK101
 clear BK102
 clear BK112
 clear HO115
 clear BK119
 clear HB
 clear HI106
 have BK101 := n0_
 have BK102 := n1_
 have BK112 := n2_
 have HO115 := n3_
 have BK119 := n4_
 have HB := n5_
 have HI106 := n6_
 clear n0_ n1_ n2_ n3_ n4_ n5_ n6_
 (try clear hb)
 (try clear hb2)
 (try clear hk)
 (try clear hi)
 refine hK.out _ _ ⟨(blk_cell BK112.out 0).trans rfl, (blk_cell BK112.out 1).trans rfl, (blk_cell BK112.out 2).trans rfl, (blk_cell BK119.out 0).trans rfl, (blk_cell BK119.out 1).trans rfl⟩ (fun hHeld => ?_)
 clear hK K
 refine norm_ (a' := ?_) ?_ ?_
 rotate_left
 ·
  show Act.put _ (some 18) _ = _
  exact qsf47
 refine one_ (i := 4) (N := none) (rlf47 [5, 2]) rfl rfl (by kernel_rfl) (by decide) (fun K hK => ?_)
 have hs26 : w25.cell? ⟨gb101, 0, none⟩ = some (.int .i64 0) := (blk_cell BK101.out 0).trans rfl
 have hfs26 := blk_frozen BK101.out 0
 have hns26_1 := NB102_101.out
 have hns26_2 := NB112_101.out
 have hns26_3 := NB119_101.out
 have hms26_1 := NB101_102.out
 have hms26_2 := NB101_112.out
 have hms26_3 := NB101_119.out
 have hs27 : w25.cell? ⟨gb101, 1, none⟩ = some (.int .i64 0) := (blk_cell BK101.out 1).trans rfl
 have hfs27 := blk_frozen BK101.out 1
 have hns27_1 := NB102_101.out
 have hns27_2 := NB112_101.out
 have hns27_3 := NB119_101.out
 have hms27_1 := NB101_102.out
 have hms27_2 := NB101_112.out
 have hms27_3 := NB101_119.out
 have hs28 : w25.cell? ⟨gb101, 2, none⟩ = some (.int .i64 0) := (blk_cell BK101.out 2).trans rfl
 have hfs28 := blk_frozen BK101.out 2
 have hns28_1 := NB102_101.out
 have hns28_2 := NB112_101.out
 have hns28_3 := NB119_101.out
 have hms28_1 := NB101_102.out
 have hms28_2 := NB101_112.out
 have hms28_3 := NB101_119.out
 refine skip_ (w1 := ?_) (by rfl) rfl ?_ ?_
 rotate_left
 ·
  go_simp
  rfl
 refine hK.out _ _ ⟨((cell_far (p := ⟨gb101, _, none⟩) NB112_101.out _).trans (((cell_far (p := ⟨gb101, _, none⟩) NB112_101.out _).trans (((cell_far (p := ⟨gb101, _, none⟩) NB112_101.out _).trans (hHeld.1)))))), ((cell_far (p := ⟨gb101, _, none⟩) NB112_101.out _).trans (((cell_far (p := ⟨gb101, _, none⟩) NB112_101.out _).trans (((cell_far (p := ⟨gb101, _, none⟩) NB112_101.out _).trans (hHeld.2.1)))))), ((cell_far (p := ⟨gb101, _, none⟩) NB112_101.out _).trans (((cell_far (p := ⟨gb101, _, none⟩) NB112_101.out _).trans (((cell_far (p := ⟨gb101, _, none⟩) NB112_101.out _).trans (hHeld.2.2.1)))))), ((cell_far (p := ⟨gb101, _, none⟩) NB119_101.out _).trans (((cell_far (p := ⟨gb101, _, none⟩) NB119_101.out _).trans (((cell_far (p := ⟨gb101, _, none⟩) NB119_101.out _).trans (hHeld.2.2.2.1)))))), ((cell_far (p := ⟨gb101, _, none⟩) NB119_101.out _).trans (((cell_far (p := ⟨gb101, _, none⟩) NB119_101.out _).trans (((cell_far (p := ⟨gb101, _, none⟩) NB119_101.out _).trans (hHeld.2.2.2.2))))))⟩ (fun hHeld => ?_)
 clear hK K
 refine one_ (i := 5) (N := none) (rlf47 [6, 1]) rfl rfl (by kernel_rfl) (by decide) (fun K hK => ?_)
 have hs29 : w25.cell? ⟨gb102, 0, none⟩ = some (.slice none 0 0) := (blk_cell BK102.out 0).trans rfl
 have hfs29 := blk_frozen BK102.out 0
 have hns29_0 := NB101_102.out
 have hns29_2 := NB112_102.out
 have hns29_3 := NB119_102.out
 have hms29_0 := NB102_101.out
 have hms29_2 := NB102_112.out
 have hms29_3 := NB102_119.out
 have hs30 : w25.cell? ⟨gb102, 1, none⟩ = some (.int .i64 0) := (blk_cell BK102.out 1).trans rfl
 have hfs30 := blk_frozen BK102.out 1
 have hns30_0 := NB101_102.out
 have hns30_2 := NB112_102.out
 have hns30_3 := NB119_102.out
 have hms30_0 := NB102_101.out
 have hms30_2 := NB102_112.out
 have hms30_3 := NB102_119.out
 refine skip_ (w1 := ?_) (by rfl) rfl ?_ ?_
 rotate_left
 ·
  go_simp
  rfl
 refine hK.out _ _ ⟨((cell_far (p := ⟨gb102, _, none⟩) NB112_102.out _).trans (((cell_far (p := ⟨gb102, _, none⟩) NB112_102.out _).trans (hHeld.1)))), ((cell_far (p := ⟨gb102, _, none⟩) NB112_102.out _).trans (((cell_far (p := ⟨gb102, _, none⟩) NB112_102.out _).trans (hHeld.2.1)))), ((cell_far (p := ⟨gb102, _, none⟩) NB112_102.out _).trans (((cell_far (p := ⟨gb102, _, none⟩) NB112_102.out _).trans (hHeld.2.2.1)))), ((cell_far (p := ⟨gb102, _, none⟩) NB119_102.out _).trans (((cell_far (p := ⟨gb102, _, none⟩) NB119_102.out _).trans (hHeld.2.2.2.1)))), ((cell_far (p := ⟨gb102, _, none⟩) NB119_102.out _).trans (((cell_far (p := ⟨gb102, _, none⟩) NB119_102.out _).trans (hHeld.2.2.2.2))))⟩ (fun hHeld => ?_)
 clear hK K
 refine pure_ (i := 6) (N := some 4) (v := ?_) (a' := ?_) (rlf47 [7]) rfl rfl (by kernel_rfl) (fun _ _ _ h => h) (Or.inl ⟨by rfl, ?_⟩) ?_ ?_
 rotate_left
 ·
  intro w'
  go_simp
  with_reducible rfl
 rotate_left
 ·
  exact qsf47
 refine done_ (by kernel_rfl) ?_
 try go_wp2
 refine bodyPost_ret (results_list (rs := [.cell 2 40, .cell 3 30, .tmp 4]) rfl (by simp) (.cell gb101 40 #[.int .i64 t107, .int .i64 t108, .int .i64 t109] (0, 0) _ rfl (by (with_reducible repeat (first | refine blk_drewN ?_ _ | refine blk_drew ?_ | refine blk_alloc ?_ _)); refine blk_far ?_ NB101_102.out _; (with_reducible repeat (first | refine blk_drewN ?_ _ | refine blk_drew ?_ | refine blk_alloc ?_ _)); refine blk_far ?_ NB101_102.out _; (with_reducible repeat (first | refine blk_drewN ?_ _ | refine blk_drew ?_ | refine blk_alloc ?_ _)); refine blk_put (cs := #[.int .i64 t107, .int .i64 t108, .int .i64 0]) ?_ 2 _ rfl; (with_reducible repeat (first | refine blk_drewN ?_ _ | refine blk_drew ?_ | refine blk_alloc ?_ _)); refine blk_put (cs := #[.int .i64 t107, .int .i64 0, .int .i64 0]) ?_ 1 _ rfl; (with_reducible repeat (first | refine blk_drewN ?_ _ | refine blk_drew ?_ | refine blk_alloc ?_ _)); refine blk_put (cs := #[.int .i64 0, .int .i64 0, .int .i64 0]) ?_ 0 _ rfl; (with_reducible repeat (first | refine blk_drewN ?_ _ | refine blk_drew ?_ | refine blk_alloc ?_ _)); exact BK101.out) Try.underlying40 rfl (by kernel_rfl) (.cell gb102 30 #[.slice Ao17 t113.length co17, .int .i64 t116] (0, 0) _ rfl (by (with_reducible repeat (first | refine blk_drewN ?_ _ | refine blk_drew ?_ | refine blk_alloc ?_ _)); refine blk_put (cs := #[.slice Ao17 t113.length co17, .int .i64 0]) ?_ 1 _ rfl; (with_reducible repeat (first | refine blk_drewN ?_ _ | refine blk_drew ?_ | refine blk_alloc ?_ _)); refine blk_put (cs := #[.slice none 0 0, .int .i64 0]) ?_ 0 _ rfl; (with_reducible repeat (first | refine blk_drewN ?_ _ | refine blk_drew ?_ | refine blk_alloc ?_ _)); refine blk_far ?_ NB102_101.out _; (with_reducible repeat (first | refine blk_drewN ?_ _ | refine blk_drew ?_ | refine blk_alloc ?_ _)); refine blk_far ?_ NB102_101.out _; (with_reducible repeat (first | refine blk_drewN ?_ _ | refine blk_drew ?_ | refine blk_alloc ?_ _)); refine blk_far ?_ NB102_101.out _; (with_reducible repeat (first | refine blk_drewN ?_ _ | refine blk_drew ?_ | refine blk_alloc ?_ _)); exact BK102.out) Try.underlying30 rfl (by kernel_rfl) (.tmp .nil)))) rfl ?_
 exact ⟨_, by first | rfl | (simp [errW_none, errW_some] <;> rfl) | (simp [*, errW_none, errW_some] <;> rfl), by (with_reducible repeat (first | apply Kd.R_alloc | apply Kd.R_drewN | apply Kd.R_drew)); exact Kd.R_mono (Kd.R_far (p := ⟨gb102, 1, none⟩) (Kd.R_far (p := ⟨gb102, 0, none⟩) (Kd.R_far (p := ⟨gb101, 2, none⟩) (Kd.R_far (p := ⟨gb101, 1, none⟩) (Kd.R_far (p := ⟨gb101, 0, none⟩) (Kd.R_types (Kd.R_types HO115.out BK101.out (by decide)) BK102.out (by decide)) (fun _ hk => hk.1.2) (.int .i64 t107)) (fun _ hk => hk.1.2) (.int .i64 t108)) (fun _ hk => hk.1.2) (.int .i64 t109)) (fun _ hk => hk.2) (.slice Ao17 t113.length co17)) (fun _ hk => hk.2) (.int .i64 t116)) (fun _ hk => trivial), (q5f47 HB.out (IsS73.ge HI106.out) GE101.out GE102.out GE112.out GE119.out)⟩

end Go.Proofs.Ytfkecldlhngjhaa.XA
