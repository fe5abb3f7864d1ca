/- Printed functions that the law FnLock comes to, with their contracts; written by xprint.py, this session's program over the kit's print. -/
import Derived.Test.YtfkecldlhngjhaaCFnLocka
namespace Go.Proofs.Ytfkecldlhngjhaa.XA
open Go.RowKit Go.Proofs.YtfkecldlhngjhaaW.PrintWords Go.Proofs.YtfkecldlhngjhaaW.PrintLast Go.Proofs.YtfkecldlhngjhaaW.PrintMore
attribute [local go_sem] max2_int min2_int max_two min_two max_three min_three max_four min_four   -- for this text's walks alone
set_option linter.unusedVariables false
set_option linter.unusedSimpArgs false

/-! ### laws_FnLock: function 6 -/
theorem qbf6 {P Q : Prop} (h : P) (f : P → Q := by intro h_; (with_reducible repeat (first | refine blk_drewN ?_ _ | refine blk_drew ?_ | refine blk_alloc ?_ _)); exact h_) : Q := f h
theorem qrf6 {P Q : Prop} (h : P) (f : P → Q := by intro h_; (with_reducible repeat (first | apply Kd.R_alloc | apply Kd.R_drewN | apply Kd.R_drew)); exact h_) : Q := f h
theorem qff6 {P : Prop} (f : P := by (try simp only [List.map_toArray, List.map_cons, List.map_nil]); first | done | rfl | (simp only [List.length_drop, List.length_take]; rfl)) : P := f
theorem qsf6 {P : Prop} (f : P := by simp only [Act.put, List.setIfInBounds_toArray, List.set_cons_zero, List.set_cons_succ, i64_w, i32_w]; rfl) : P := f
def rlf6g : Bool → List Nat → List Bool
 | _, [] => []
 | b, n :: ns => List.replicate n b ++ rlf6g (!b) ns
abbrev rlf6 (ns : List Nat) : Array Bool := (rlf6g true ns).toArray
theorem qw0f6 {P Q : Prop} (h : P) (f : P → Q := by intro h_; repeat (first | (with_reducible first | exact h_ | apply below_alloc | apply pw_below_drewN | apply below_drew1) | exact h_)) : Q := f h
theorem qw1f6 {P Q P0 : Prop} (h : P) (h0 : P0) (f : P → P0 → Q := by intro h_ g0_; repeat (first | (with_reducible first | exact h_ | apply below_alloc | apply pw_below_drewN | apply below_drew1 | refine below_set ?_ g0_) | exact h_)) : Q := f h h0
theorem qw2f6 {P Q P0 P1 : Prop} (h : P) (h0 : P0) (h1 : P1) (f : P → P0 → P1 → Q := by intro h_ g0_ g1_; repeat (first | (with_reducible first | exact h_ | apply below_alloc | apply pw_below_drewN | apply below_drew1 | refine below_set ?_ g0_ | refine below_set ?_ g1_) | exact h_)) : Q := f h h0 h1
theorem qw3f6 {P Q P0 P1 P2 : Prop} (h : P) (h0 : P0) (h1 : P1) (h2 : P2) (f : P → P0 → P1 → P2 → Q := by intro h_ g0_ g1_ g2_; repeat (first | (with_reducible first | exact h_ | apply below_alloc | apply pw_below_drewN | apply below_drew1 | refine below_set ?_ g0_ | refine below_set ?_ g1_ | refine below_set ?_ g2_) | exact h_)) : Q := f h h0 h1 h2
mutual
def laws_FnLock.l0 : Nat → List Int → List Int → Int → Int → Int → Int → Int → Int → List Int → Int → Option (Bool)
 | 0, _, _, _, _, _, _, _, _, _, _ => none
 | k + 1, x0, x5, x6, x7, x8, x106000, x106001, x106002, x107000, x107001 => if x8 < 40 then ((laws_at.f x0 x8).bind fun t110 => ((impl_LockedAt.f x107000 x107001 (wrap64 (x7 + (Int.tmod t110 7)))).bind fun t111 => (if (t111 != (decide ((wrap64 (x7 + (Int.tmod t110 7))) < x6))) = true then (some false) else ((laws_at.f x0 (wrap64 (x8 + 1))).bind fun t112 => (if (Int.tmod t112 5) = 0 then ((impl_LockGood.f k x106000 x106001 x106002 x107000 x107001 (wrap64 (x7 + (Int.tmod t110 7)))).bind fun bt113 => (if (bt113.2.2 != (decide ((wrap64 (x7 + (Int.tmod t110 7))) ≥ x6))) = true then (some false) else (if bt113.2.2 = true then (laws_FnLock.l0 k x0 (([] : List Int)) x6 (wrap64 (x7 + (Int.tmod t110 7))) (wrap64 (x8 + 1)) x106000 x106001 x106002 bt113.1 bt113.2.1) else (laws_FnLock.l0 k x0 x5 x6 (wrap64 (x7 + (Int.tmod t110 7))) (wrap64 (x8 + 1)) x106000 x106001 x106002 bt113.1 bt113.2.1)))) else ((impl_LockFail.f k x106000 x106001 x106002 x107000 x107001 (wrap64 (x7 + (Int.tmod t110 7)))).bind fun bt122 => (if (bt122.2.2 != (decide ((wrap64 (x7 + (Int.tmod t110 7))) ≥ x6))) = true then (some false) else (if bt122.2.2 = true then (if x5.length < 17592186044416 then (laws_FnLock.l1 k x0 (x5 ++ [wrap64 (x7 + (Int.tmod t110 7))]) x6 (wrap64 (x7 + (Int.tmod t110 7))) x8 0 0 x106000 x106001 x106002 bt122.1 bt122.2.1) else (none)) else (laws_FnLock.j2 k x0 x5 x6 (wrap64 (x7 + (Int.tmod t110 7))) x8 x106000 x106001 x106002 bt122.1 bt122.2.1))))))))) else (some true)
def laws_FnLock.j2 : Nat → List Int → List Int → Int → Int → Int → Int → Int → Int → List Int → Int → Option (Bool)
 | 0, _, _, _, _, _, _, _, _, _, _ => none
 | k + 1, x0, x5, x6, x7, x8, x106000, x106001, x106002, x107000, x107001 => (spec_LockOk.f k x106000 x106001 x106002 x107000 x107001).bind fun t135 => (if t135 = true then (if x107001 = x6 then (laws_FnLock.l0 k x0 x5 x6 x7 (wrap64 (x8 + 1)) x106000 x106001 x106002 x107000 x107001) else (some false)) else (some false))
def laws_FnLock.l1 : Nat → List Int → List Int → Int → Int → Int → Int → Int → Int → Int → Int → List Int → Int → Option (Bool)
 | 0, _, _, _, _, _, _, _, _, _, _, _, _ => none
 | k + 1, x0, x5, x6, x7, x8, x13, x14, x106000, x106001, x106002, x107000, x107001 => if x14 < (x5.length : Int) then (if 0 ≤ x14 then (if (wrap64 (x7 - (rd x5 x14))) ≤ x106001 then (laws_FnLock.l1 k x0 x5 x6 x7 x8 (wrap64 (x13 + 1)) (wrap64 (x14 + 1)) x106000 x106001 x106002 x107000 x107001) else (laws_FnLock.l1 k x0 x5 x6 x7 x8 x13 (wrap64 (x14 + 1)) x106000 x106001 x106002 x107000 x107001)) else (none)) else (if x13 ≥ x106000 then (laws_FnLock.j2 k x0 (([] : List Int)) (wrap64 (x7 + x106002)) x7 x8 x106000 x106001 x106002 x107000 x107001) else (laws_FnLock.j2 k x0 x5 x6 x7 x8 x106000 x106001 x106002 x107000 x107001))
end
def laws_FnLock.f (k : Nat) (l0 : List Int) : Option (Bool) := (laws_big.f l0).bind fun t101 => (if t101 = true then (some true) else ((laws_at.f l0 0).bind fun t102 => ((laws_at.f l0 1).bind fun t103 => ((laws_at.f l0 2).bind fun t104 => (laws_FnLock.l0 k l0 (([] : List Int)) 0 0 3 (wrap64 (1 + (Int.tmod t102 4))) (wrap64 (1 + (Int.tmod t103 20))) (wrap64 (1 + (Int.tmod t104 20))) ([] : List Int) 0)))))
theorem laws_FnLock.mono_l : ∀ k, (∀ y0 y1 y2 y3 y4 y5 y6 y7 y8 y9, LeO (laws_FnLock.l0 k y0 y1 y2 y3 y4 y5 y6 y7 y8 y9) (laws_FnLock.l0 (k + 1) y0 y1 y2 y3 y4 y5 y6 y7 y8 y9)) ∧ (∀ y0 y1 y2 y3 y4 y5 y6 y7 y8 y9, LeO (laws_FnLock.j2 k y0 y1 y2 y3 y4 y5 y6 y7 y8 y9) (laws_FnLock.j2 (k + 1) y0 y1 y2 y3 y4 y5 y6 y7 y8 y9)) ∧ (∀ y0 y1 y2 y3 y4 y5 y6 y7 y8 y9 y10 y11, LeO (laws_FnLock.l1 k y0 y1 y2 y3 y4 y5 y6 y7 y8 y9 y10 y11) (laws_FnLock.l1 (k + 1) y0 y1 y2 y3 y4 y5 y6 y7 y8 y9 y10 y11))
 | 0 => ⟨fun _ _ _ _ _ _ _ _ _ _ r h => by simp [laws_FnLock.l0] at h, fun _ _ _ _ _ _ _ _ _ _ r h => by simp [laws_FnLock.j2] at h, fun _ _ _ _ _ _ _ _ _ _ _ _ r h => by simp [laws_FnLock.l1] at h⟩
 | k + 1 => by
  obtain ⟨ih0, ih1, ih2⟩ := laws_FnLock.mono_l k
  refine ⟨?_, ?_, ?_⟩
  ·
   intro y0 y1 y2 y3 y4 y5 y6 y7 y8 y9
   unfold laws_FnLock.l0
   repeat' first
   | (with_reducible exact ih0 _ _ _ _ _ _ _ _ _ _)
   | (with_reducible exact ih1 _ _ _ _ _ _ _ _ _ _)
   | (with_reducible exact ih2 _ _ _ _ _ _ _ _ _ _ _ _)
   | (with_reducible exact impl_LockFail.mono _ _ _ _ _ _ _)
   | (with_reducible exact impl_LockGood.mono _ _ _ _ _ _ _)
   | (with_reducible exact spec_LockOk.mono _ _ _ _ _ _)
   | (with_reducible exact LeO.refl _)
   | (with_reducible exact LeO.none _)
   | (with_reducible refine LeO.ite ?_ ?_)
   | (with_reducible refine LeO.bind ?_ (fun _ => ?_))
   | exact ih0 _ _ _ _ _ _ _ _ _ _
   | exact ih1 _ _ _ _ _ _ _ _ _ _
   | exact ih2 _ _ _ _ _ _ _ _ _ _ _ _
   | exact impl_LockFail.mono _ _ _ _ _ _ _
   | exact impl_LockGood.mono _ _ _ _ _ _ _
   | exact spec_LockOk.mono _ _ _ _ _ _
   | exact LeO.none _
   | refine LeO.ite ?_ ?_
   | refine LeO.bind ?_ (fun _ => ?_)
  ·
   intro y0 y1 y2 y3 y4 y5 y6 y7 y8 y9
   unfold laws_FnLock.j2
   repeat' first
   | (with_reducible exact ih0 _ _ _ _ _ _ _ _ _ _)
   | (with_reducible exact ih1 _ _ _ _ _ _ _ _ _ _)
   | (with_reducible exact ih2 _ _ _ _ _ _ _ _ _ _ _ _)
   | (with_reducible exact impl_LockFail.mono _ _ _ _ _ _ _)
   | (with_reducible exact impl_LockGood.mono _ _ _ _ _ _ _)
   | (with_reducible exact spec_LockOk.mono _ _ _ _ _ _)
   | (with_reducible exact LeO.refl _)
   | (with_reducible exact LeO.none _)
   | (with_reducible refine LeO.ite ?_ ?_)
   | (with_reducible refine LeO.bind ?_ (fun _ => ?_))
   | exact ih0 _ _ _ _ _ _ _ _ _ _
   | exact ih1 _ _ _ _ _ _ _ _ _ _
   | exact ih2 _ _ _ _ _ _ _ _ _ _ _ _
   | exact impl_LockFail.mono _ _ _ _ _ _ _
   | exact impl_LockGood.mono _ _ _ _ _ _ _
   | exact spec_LockOk.mono _ _ _ _ _ _
   | exact LeO.none _
   | refine LeO.ite ?_ ?_
   | refine LeO.bind ?_ (fun _ => ?_)
  ·
   intro y0 y1 y2 y3 y4 y5 y6 y7 y8 y9 y10 y11
   unfold laws_FnLock.l1
   repeat' first
   | (with_reducible exact ih0 _ _ _ _ _ _ _ _ _ _)
   | (with_reducible exact ih1 _ _ _ _ _ _ _ _ _ _)
   | (with_reducible exact ih2 _ _ _ _ _ _ _ _ _ _ _ _)
   | (with_reducible exact impl_LockFail.mono _ _ _ _ _ _ _)
   | (with_reducible exact impl_LockGood.mono _ _ _ _ _ _ _)
   | (with_reducible exact spec_LockOk.mono _ _ _ _ _ _)
   | (with_reducible exact LeO.refl _)
   | (with_reducible exact LeO.none _)
   | (with_reducible refine LeO.ite ?_ ?_)
   | (with_reducible refine LeO.bind ?_ (fun _ => ?_))
   | exact ih0 _ _ _ _ _ _ _ _ _ _
   | exact ih1 _ _ _ _ _ _ _ _ _ _
   | exact ih2 _ _ _ _ _ _ _ _ _ _ _ _
   | exact impl_LockFail.mono _ _ _ _ _ _ _
   | exact impl_LockGood.mono _ _ _ _ _ _ _
   | exact spec_LockOk.mono _ _ _ _ _ _
   | exact LeO.none _
   | refine LeO.ite ?_ ?_
   | refine LeO.bind ?_ (fun _ => ?_)
theorem laws_FnLock.mono : ∀ a0 k, LeO (laws_FnLock.f k a0) (laws_FnLock.f (k + 1) a0) := by
 intro a0 k
 obtain ⟨ih0, ih1, ih2⟩ := laws_FnLock.mono_l k
 unfold laws_FnLock.f
 repeat' first
   | (with_reducible exact ih0 _ _ _ _ _ _ _ _ _ _)
   | (with_reducible exact ih1 _ _ _ _ _ _ _ _ _ _)
   | (with_reducible exact ih2 _ _ _ _ _ _ _ _ _ _ _ _)
   | (with_reducible exact impl_LockFail.mono _ _ _ _ _ _ _)
   | (with_reducible exact impl_LockGood.mono _ _ _ _ _ _ _)
   | (with_reducible exact spec_LockOk.mono _ _ _ _ _ _)
   | (with_reducible exact LeO.refl _)
   | (with_reducible exact LeO.none _)
   | (with_reducible refine LeO.ite ?_ ?_)
   | (with_reducible refine LeO.bind ?_ (fun _ => ?_))
   | exact ih0 _ _ _ _ _ _ _ _ _ _
   | exact ih1 _ _ _ _ _ _ _ _ _ _
   | exact ih2 _ _ _ _ _ _ _ _ _ _ _ _
   | exact impl_LockFail.mono _ _ _ _ _ _ _
   | exact impl_LockGood.mono _ _ _ _ _ _ _
   | exact spec_LockOk.mono _ _ _ _ _ _
   | exact LeO.none _
   | refine LeO.ite ?_ ?_
   | refine LeO.bind ?_ (fun _ => ?_)
set_option maxHeartbeats 8000000 in
set_option maxRecDepth 100000 in
theorem laws_FnLock.calls (k : Nat) (A0 : Option Addr) (c0 : Nat) (l0 : List Int) (r : Bool) (w : World) (hr0 : Kd.C (Kd.int .u8) w A0 l0.length l0) (hc0 : l0.length ≤ c0) (hrt : r = true) (h : laws_FnLock.f k l0 = some r) :
  Calls Try.prog 6 #[.slice A0 l0.length c0] w fun e w' => e = .returned (.bool r) ∧ Below w.heap.size w w' := by
 have hu40 := Try.underlying40
 have hu30 := Try.underlying30
 have HR0 := Aside0.mk hr0
 have HC0 := Aside0.mk hc0
 clear hr0 hc0
 have HB := Aside0.mk (Below.refl w.heap.size w)
 have H : ((laws_big.f l0).bind fun t101 => (if t101 = true then (some true) else ((laws_at.f l0 0).bind fun t102 => ((laws_at.f l0 1).bind fun t103 => ((laws_at.f l0 2).bind fun t104 => (laws_FnLock.l0 k l0 (([] : List Int)) 0 0 3 (wrap64 (1 + (Int.tmod t102 4))) (wrap64 (1 + (Int.tmod t103 20))) (wrap64 (1 + (Int.tmod t104 20))) ([] : List Int) 0)))))) = some r := h
 clear h
 replace H := Option.bind_eq_some_iff.mp H
 obtain ⟨t101, A20, H⟩ := H
 replace H : (if t101 = true then (some true) else ((laws_at.f l0 0).bind fun t102 => ((laws_at.f l0 1).bind fun t103 => ((laws_at.f l0 2).bind fun t104 => (laws_FnLock.l0 k l0 (([] : List Int)) 0 0 3 (wrap64 (1 + (Int.tmod t102 4))) (wrap64 (1 + (Int.tmod t103 20))) (wrap64 (1 + (Int.tmod t104 20))) ([] : List Int) 0))))) = some r := H
 have A2 := Aside0.mk A20
 clear A20
 by_cases c3 : t101 = true
 ·
  subst c3
  have H1 : (some true) = some r := by rw [if_pos rfl] at H; exact H
  clear H
  have H := H1
  clear H1
  obtain rfl := Option.some.inj H
  go_enter Try.func6, Try.ntmps6
  go_wp2_with (first | (go_at_call 26; (with_reducible refine (laws_big.calls _ _ l0 true _ ?side1 ?side2 A2.out).mono ?_); (case side1 => repeat (first | exact HR0.out | (with_reducible refine Kd.C_alloc ?_ _) | (with_reducible refine Kd.C_drewN ?_ _) | (with_reducible refine Kd.C_drew ?_))); (case side2 => exact HC0.out); rintro e w' ⟨rfl, ⟨nd, rfl⟩⟩; (try first | exact ⟨rfl, _, World.drewN_drewN _ _ _⟩ | exact ⟨rfl, _, Eq.trans (World.drewN_drewN _ _ _) (congrArg (World.drewN _) (Nat.add_assoc _ _ _))⟩)))
  repeat (go_quiet (first | (go_at_call 26; (with_reducible refine (laws_big.calls _ _ l0 true _ ?side1 ?side2 A2.out).mono ?_); (case side1 => repeat (first | exact HR0.out | (with_reducible refine Kd.C_alloc ?_ _) | (with_reducible refine Kd.C_drewN ?_ _) | (with_reducible refine Kd.C_drew ?_))); (case side2 => exact HC0.out); rintro e w' ⟨rfl, ⟨nd, rfl⟩⟩; (try first | exact ⟨rfl, _, World.drewN_drewN _ _ _⟩ | exact ⟨rfl, _, Eq.trans (World.drewN_drewN _ _ _) (congrArg (World.drewN _) (Nat.add_assoc _ _ _))⟩))); try go_wp2_with (first | (go_at_call 26; (with_reducible refine (laws_big.calls _ _ l0 true _ ?side1 ?side2 A2.out).mono ?_); (case side1 => repeat (first | exact HR0.out | (with_reducible refine Kd.C_alloc ?_ _) | (with_reducible refine Kd.C_drewN ?_ _) | (with_reducible refine Kd.C_drew ?_))); (case side2 => exact HC0.out); rintro e w' ⟨rfl, ⟨nd, rfl⟩⟩; (try first | exact ⟨rfl, _, World.drewN_drewN _ _ _⟩ | exact ⟨rfl, _, Eq.trans (World.drewN_drewN _ _ _) (congrArg (World.drewN _) (Nat.add_assoc _ _ _))⟩))))
  go_ret
  exact ⟨by first | rfl | (simp [errW_none, errW_some] <;> rfl) | (simp [*, errW_none, errW_some] <;> rfl), by repeat (first | (with_reducible first | exact HB.out | apply below_alloc | apply pw_below_drewN | apply below_drew1) | exact HB.out)⟩
 ·
  replace c3 := Bool.eq_false_iff.mpr c3
  subst c3
  have H1 : ((laws_at.f l0 0).bind fun t102 => ((laws_at.f l0 1).bind fun t103 => ((laws_at.f l0 2).bind fun t104 => (laws_FnLock.l0 k l0 (([] : List Int)) 0 0 3 (wrap64 (1 + (Int.tmod t102 4))) (wrap64 (1 + (Int.tmod t103 20))) (wrap64 (1 + (Int.tmod t104 20))) ([] : List Int) 0)))) = some r := by rw [if_neg (show ¬ (false = true) by decide)] at H; exact H
  clear H
  have H := H1
  clear H1
  replace H := Option.bind_eq_some_iff.mp H
  obtain ⟨t102, A40, H⟩ := H
  replace H : ((laws_at.f l0 1).bind fun t103 => ((laws_at.f l0 2).bind fun t104 => (laws_FnLock.l0 k l0 (([] : List Int)) 0 0 3 (wrap64 (1 + (Int.tmod t102 4))) (wrap64 (1 + (Int.tmod t103 20))) (wrap64 (1 + (Int.tmod t104 20))) ([] : List Int) 0))) = some r := H
  have A4 := Aside0.mk A40
  clear A40
  replace H := Option.bind_eq_some_iff.mp H
  obtain ⟨t103, A50, H⟩ := H
  replace H : ((laws_at.f l0 2).bind fun t104 => (laws_FnLock.l0 k l0 (([] : List Int)) 0 0 3 (wrap64 (1 + (Int.tmod t102 4))) (wrap64 (1 + (Int.tmod t103 20))) (wrap64 (1 + (Int.tmod t104 20))) ([] : List Int) 0)) = some r := H
  have A5 := Aside0.mk A50
  clear A50
  replace H := Option.bind_eq_some_iff.mp H
  obtain ⟨t104, A60, H⟩ := H
  replace H : (laws_FnLock.l0 k l0 (([] : List Int)) 0 0 3 (wrap64 (1 + (Int.tmod t102 4))) (wrap64 (1 + (Int.tmod t103 20))) (wrap64 (1 + (Int.tmod t104 20))) ([] : List Int) 0) = some r := H
  have A6 := Aside0.mk A60
  clear A60
  obtain ⟨y107, hy107⟩ : ∃ y_ : List Int, y_ = (([] : List Int)) := ⟨_, rfl⟩
  replace H : (laws_FnLock.l0 k l0 y107 0 0 3 (wrap64 (1 + (Int.tmod t102 4))) (wrap64 (1 + (Int.tmod t103 20))) (wrap64 (1 + (Int.tmod t104 20))) ([] : List Int) 0) = some r := by first | (rw [hy107]; with_reducible exact H) | (have H2_ := (Option.bind_some _ _).symm.trans H; rw [hy107]; with_reducible exact H2_) | (have H2_ := (Option.bind_some _ _).symm.trans H; with_reducible exact H2_) | with_reducible exact H | (rw [hy107]; exact H) | exact H
  have Ny107 := Aside0.mk hy107
  clear hy107
  have H' := Aside0.mk H
  clear H
  go_enter Try.func6, Try.ntmps6
  go_wp2_with (first | (go_at_call 26; (with_reducible refine (laws_big.calls _ _ l0 false _ ?side1 ?side2 A2.out).mono ?_); (case side1 => repeat (first | exact HR0.out | (with_reducible refine Kd.C_alloc ?_ _) | (with_reducible refine Kd.C_drewN ?_ _) | (with_reducible refine Kd.C_drew ?_))); (case side2 => exact HC0.out); rintro e w' ⟨rfl, ⟨nd, rfl⟩⟩; (try first | exact ⟨rfl, _, World.drewN_drewN _ _ _⟩ | exact ⟨rfl, _, Eq.trans (World.drewN_drewN _ _ _) (congrArg (World.drewN _) (Nat.add_assoc _ _ _))⟩)) | (go_at_call 27; (with_reducible refine (laws_at.calls _ _ l0 0 t102 _ ?side1 ?side2 A4.out).mono ?_); (case side1 => repeat (first | exact HR0.out | (with_reducible refine Kd.C_alloc ?_ _) | (with_reducible refine Kd.C_drewN ?_ _) | (with_reducible refine Kd.C_drew ?_))); (case side2 => exact HC0.out); rintro e w' ⟨rfl, ⟨nd, rfl⟩⟩; (try first | exact ⟨rfl, _, World.drewN_drewN _ _ _⟩ | exact ⟨rfl, _, Eq.trans (World.drewN_drewN _ _ _) (congrArg (World.drewN _) (Nat.add_assoc _ _ _))⟩)) | (go_at_call 27; (with_reducible refine (laws_at.calls _ _ l0 1 t103 _ ?side1 ?side2 A5.out).mono ?_); (case side1 => repeat (first | exact HR0.out | (with_reducible refine Kd.C_alloc ?_ _) | (with_reducible refine Kd.C_drewN ?_ _) | (with_reducible refine Kd.C_drew ?_))); (case side2 => exact HC0.out); rintro e w' ⟨rfl, ⟨nd, rfl⟩⟩; (try first | exact ⟨rfl, _, World.drewN_drewN _ _ _⟩ | exact ⟨rfl, _, Eq.trans (World.drewN_drewN _ _ _) (congrArg (World.drewN _) (Nat.add_assoc _ _ _))⟩)) | (go_at_call 27; (with_reducible refine (laws_at.calls _ _ l0 2 t104 _ ?side1 ?side2 A6.out).mono ?_); (case side1 => repeat (first | exact HR0.out | (with_reducible refine Kd.C_alloc ?_ _) | (with_reducible refine Kd.C_drewN ?_ _) | (with_reducible refine Kd.C_drew ?_))); (case side2 => exact HC0.out); rintro e w' ⟨rfl, ⟨nd, rfl⟩⟩; (try first | exact ⟨rfl, _, World.drewN_drewN _ _ _⟩ | exact ⟨rfl, _, Eq.trans (World.drewN_drewN _ _ _) (congrArg (World.drewN _) (Nat.add_assoc _ _ _))⟩)) | ((with_reducible refine gate_dst (N := 3) rfl ?_); refine box_event ?hg (N := 3) ?hd (cs := #[.int .i64 0, .int .i64 0, .int .i64 0]) (t := 40) ?hr ?_; (case hd => rfl); (case hg => rfl); (case hr => first | (go_simp; done) | (go_simp; rfl)); intro gb105 hg w7 hbox hb; have n0_ := Aside0.mk (below_step (qw0f6 HB.out) hb); have n1_ := Aside0.mk (hbox); have n2_ := Aside0.mk ((by rw [hg]; exact (below_size (qw0f6 HB.out)) : w.heap.size ≤ gb105)); have n3_ := Aside0.mk ((by rw [hg]; exact (below_size (qw0f6 HB.out)) : w.heap.size ≤ gb105)); clear HB; have HB := n0_; have BK105 := n1_; have GW105 := n2_; have GE105 := n3_; clear n0_ n1_ n2_ n3_; clear hb hbox hg; have hcz8_0 : w7.cell? ⟨gb105, 0, none⟩ = some (.int .i64 0) := (blk_cell BK105.out 0).trans rfl; have hcz8_1 : w7.cell? ⟨gb105, 1, none⟩ = some (.int .i64 0) := (blk_cell BK105.out 1).trans rfl; have hcz8_2 : w7.cell? ⟨gb105, 2, none⟩ = some (.int .i64 0) := (blk_cell BK105.out 2).trans rfl; have hfz8_0 := blk_frozen BK105.out 0; have hfz8_1 := blk_frozen BK105.out 1; have hfz8_2 := blk_frozen BK105.out 2) | ((with_reducible refine gate_dst (N := 4) rfl ?_); refine box_event ?hg (N := 4) ?hd (cs := #[.slice none 0 0, .int .i64 0]) (t := 30) ?hr ?_; (case hd => rfl); (case hg => rfl); (case hr => first | (go_simp; done) | (go_simp; rfl)); intro gb106 hg w9 hbox hb; have n0_ := Aside0.mk (blk_below (g := gb105) (o := .cells #[.int .i64 (wrap64 (1 + (Int.tmod t102 4))), .int .i64 (wrap64 (1 + (Int.tmod t103 20))), .int .i64 (wrap64 (1 + (Int.tmod t104 20)))] 40 (0, 0)) (by (with_reducible repeat (first | refine blk_drewN ?_ _ | refine blk_drew ?_ | refine blk_alloc ?_ _)); refine blk_put (cs := #[.int .i64 (wrap64 (1 + (Int.tmod t102 4))), .int .i64 (wrap64 (1 + (Int.tmod t103 20))), .int .i64 0]) ?_ 2 _ rfl; (with_reducible repeat (first | refine blk_drewN ?_ _ | refine blk_drew ?_ | refine blk_alloc ?_ _)); refine blk_put (cs := #[.int .i64 (wrap64 (1 + (Int.tmod t102 4))), .int .i64 0, .int .i64 0]) ?_ 1 _ rfl; (with_reducible repeat (first | refine blk_drewN ?_ _ | refine blk_drew ?_ | refine blk_alloc ?_ _)); refine blk_put (cs := #[.int .i64 0, .int .i64 0, .int .i64 0]) ?_ 0 _ rfl; (with_reducible repeat (first | refine blk_drewN ?_ _ | refine blk_drew ?_ | refine blk_alloc ?_ _)); exact BK105.out) hb); have n1_ := Aside0.mk (below_step (qw1f6 HB.out GE105.out) hb); have n2_ := Aside0.mk (hbox); have n3_ := Aside0.mk ((by rw [hg]; exact (below_size (qw1f6 HB.out GE105.out)) : w.heap.size ≤ gb106)); have n4_ := Aside0.mk ((by rw [hg]; exact (below_size (qw1f6 HB.out GE105.out)) : w.heap.size ≤ gb106)); have n5_ := Aside0.mk ((by rw [hg]; exact Nat.ne_of_lt (blk_lt (g := gb105) (o := .cells #[.int .i64 (wrap64 (1 + (Int.tmod t102 4))), .int .i64 (wrap64 (1 + (Int.tmod t103 20))), .int .i64 (wrap64 (1 + (Int.tmod t104 20)))] 40 (0, 0)) (by (with_reducible repeat (first | refine blk_drewN ?_ _ | refine blk_drew ?_ | refine blk_alloc ?_ _)); refine blk_put (cs := #[.int .i64 (wrap64 (1 + (Int.tmod t102 4))), .int .i64 (wrap64 (1 + (Int.tmod t103 20))), .int .i64 0]) ?_ 2 _ rfl; (with_reducible repeat (first | refine blk_drewN ?_ _ | refine blk_drew ?_ | refine blk_alloc ?_ _)); refine blk_put (cs := #[.int .i64 (wrap64 (1 + (Int.tmod t102 4))), .int .i64 0, .int .i64 0]) ?_ 1 _ rfl; (with_reducible repeat (first | refine blk_drewN ?_ _ | refine blk_drew ?_ | refine blk_alloc ?_ _)); refine blk_put (cs := #[.int .i64 0, .int .i64 0, .int .i64 0]) ?_ 0 _ rfl; (with_reducible repeat (first | refine blk_drewN ?_ _ | refine blk_drew ?_ | refine blk_alloc ?_ _)); exact BK105.out)) : gb105 ≠ gb106)); have n6_ := Aside0.mk ((by rw [hg]; exact Nat.ne_of_gt (blk_lt (g := gb105) (o := .cells #[.int .i64 (wrap64 (1 + (Int.tmod t102 4))), .int .i64 (wrap64 (1 + (Int.tmod t103 20))), .int .i64 (wrap64 (1 + (Int.tmod t104 20)))] 40 (0, 0)) (by (with_reducible repeat (first | refine blk_drewN ?_ _ | refine blk_drew ?_ | refine blk_alloc ?_ _)); refine blk_put (cs := #[.int .i64 (wrap64 (1 + (Int.tmod t102 4))), .int .i64 (wrap64 (1 + (Int.tmod t103 20))), .int .i64 0]) ?_ 2 _ rfl; (with_reducible repeat (first | refine blk_drewN ?_ _ | refine blk_drew ?_ | refine blk_alloc ?_ _)); refine blk_put (cs := #[.int .i64 (wrap64 (1 + (Int.tmod t102 4))), .int .i64 0, .int .i64 0]) ?_ 1 _ rfl; (with_reducible repeat (first | refine blk_drewN ?_ _ | refine blk_drew ?_ | refine blk_alloc ?_ _)); refine blk_put (cs := #[.int .i64 0, .int .i64 0, .int .i64 0]) ?_ 0 _ rfl; (with_reducible repeat (first | refine blk_drewN ?_ _ | refine blk_drew ?_ | refine blk_alloc ?_ _)); exact BK105.out)) : gb106 ≠ gb105)); clear BK105; clear HB; have BK105 := n0_; have HB := n1_; have BK106 := n2_; have GW106 := n3_; have GE106 := n4_; have NB105_106 := n5_; have NB106_105 := n6_; clear n0_ n1_ n2_ n3_ n4_ n5_ n6_; clear hb hbox hg; have hnb10 := NB106_105.out; have hnc10 := NB105_106.out; have hcz11_0 : w9.cell? ⟨gb106, 0, none⟩ = some (.slice none 0 0) := (blk_cell BK106.out 0).trans rfl; have hcz11_1 : w9.cell? ⟨gb106, 1, none⟩ = some (.int .i64 0) := (blk_cell BK106.out 1).trans rfl; have hfz11_0 := blk_frozen BK106.out 0; have hfz11_1 := blk_frozen BK106.out 1) | ((with_reducible refine gate_dst (N := 31) rfl ?_); refine Kd.R_lit (Kd.int .i64) _ 3 ?hg (N := 31) ?hd (xs := ([] : List Int)) (inner := []) (ok := fun _ => True) (okp := fun _ => True) ?hr ?hp (fun _ hk => hk) trivial (Below.refl _ _) (Nat.le_refl _) (by simp) ?_; (case hd => rfl); (case hg => rfl); (case hr => first | (go_simp; done) | (go_simp; rfl)); (case hp => exact (Reps.none _ _)); intro v108 w12 ho13 hb hg_ hnew_; clear hg_ hnew_; (first | rw [← Ny107.out] at ho13 | (simp only [Int.reduceToNat] at ho13; rw [← Ny107.out] at ho13)); have n0_ := Aside0.mk (Kd.R_lower ho13 (below_size (qw2f6 HB.out GE105.out GE106.out))); have n1_ := Aside0.mk (blk_below (g := gb105) (o := .cells #[.int .i64 (wrap64 (1 + (Int.tmod t102 4))), .int .i64 (wrap64 (1 + (Int.tmod t103 20))), .int .i64 (wrap64 (1 + (Int.tmod t104 20)))] 40 (0, 0)) (by (with_reducible repeat (first | refine blk_drewN ?_ _ | refine blk_drew ?_ | refine blk_alloc ?_ _)); refine blk_far ?_ NB105_106.out _; (with_reducible repeat (first | refine blk_drewN ?_ _ | refine blk_drew ?_ | refine blk_alloc ?_ _)); refine blk_far ?_ NB105_106.out _; (with_reducible repeat (first | refine blk_drewN ?_ _ | refine blk_drew ?_ | refine blk_alloc ?_ _)); exact BK105.out) hb); have n2_ := Aside0.mk (blk_below (g := gb106) (o := .cells #[.slice none 0 0, .int .i64 0] 30 (0, 0)) (by (with_reducible repeat (first | refine blk_drewN ?_ _ | refine blk_drew ?_ | refine blk_alloc ?_ _)); refine blk_put (cs := #[.slice none 0 0, .int .i64 0]) ?_ 1 _ rfl; (with_reducible repeat (first | refine blk_drewN ?_ _ | refine blk_drew ?_ | refine blk_alloc ?_ _)); refine blk_put (cs := #[.slice none 0 0, .int .i64 0]) ?_ 0 _ rfl; (with_reducible repeat (first | refine blk_drewN ?_ _ | refine blk_drew ?_ | refine blk_alloc ?_ _)); exact BK106.out) hb); have n3_ := Aside0.mk (below_step (qw2f6 HB.out GE105.out GE106.out) hb); clear BK105; clear BK106; clear HB; have HO109 := n0_; have BK105 := n1_; have BK106 := n2_; have HB := n3_; clear n0_ n1_ n2_ n3_; clear hb ho13))
  repeat (go_quiet (first | (go_at_call 26; (with_reducible refine (laws_big.calls _ _ l0 false _ ?side1 ?side2 A2.out).mono ?_); (case side1 => repeat (first | exact HR0.out | (with_reducible refine Kd.C_alloc ?_ _) | (with_reducible refine Kd.C_drewN ?_ _) | (with_reducible refine Kd.C_drew ?_))); (case side2 => exact HC0.out); rintro e w' ⟨rfl, ⟨nd, rfl⟩⟩; (try first | exact ⟨rfl, _, World.drewN_drewN _ _ _⟩ | exact ⟨rfl, _, Eq.trans (World.drewN_drewN _ _ _) (congrArg (World.drewN _) (Nat.add_assoc _ _ _))⟩)) | (go_at_call 27; (with_reducible refine (laws_at.calls _ _ l0 0 t102 _ ?side1 ?side2 A4.out).mono ?_); (case side1 => repeat (first | exact HR0.out | (with_reducible refine Kd.C_alloc ?_ _) | (with_reducible refine Kd.C_drewN ?_ _) | (with_reducible refine Kd.C_drew ?_))); (case side2 => exact HC0.out); rintro e w' ⟨rfl, ⟨nd, rfl⟩⟩; (try first | exact ⟨rfl, _, World.drewN_drewN _ _ _⟩ | exact ⟨rfl, _, Eq.trans (World.drewN_drewN _ _ _) (congrArg (World.drewN _) (Nat.add_assoc _ _ _))⟩)) | (go_at_call 27; (with_reducible refine (laws_at.calls _ _ l0 1 t103 _ ?side1 ?side2 A5.out).mono ?_); (case side1 => repeat (first | exact HR0.out | (with_reducible refine Kd.C_alloc ?_ _) | (with_reducible refine Kd.C_drewN ?_ _) | (with_reducible refine Kd.C_drew ?_))); (case side2 => exact HC0.out); rintro e w' ⟨rfl, ⟨nd, rfl⟩⟩; (try first | exact ⟨rfl, _, World.drewN_drewN _ _ _⟩ | exact ⟨rfl, _, Eq.trans (World.drewN_drewN _ _ _) (congrArg (World.drewN _) (Nat.add_assoc _ _ _))⟩)) | (go_at_call 27; (with_reducible refine (laws_at.calls _ _ l0 2 t104 _ ?side1 ?side2 A6.out).mono ?_); (case side1 => repeat (first | exact HR0.out | (with_reducible refine Kd.C_alloc ?_ _) | (with_reducible refine Kd.C_drewN ?_ _) | (with_reducible refine Kd.C_drew ?_))); (case side2 => exact HC0.out); rintro e w' ⟨rfl, ⟨nd, rfl⟩⟩; (try first | exact ⟨rfl, _, World.drewN_drewN _ _ _⟩ | exact ⟨rfl, _, Eq.trans (World.drewN_drewN _ _ _) (congrArg (World.drewN _) (Nat.add_assoc _ _ _))⟩)) | ((with_reducible refine gate_dst (N := 3) rfl ?_); refine box_event ?hg (N := 3) ?hd (cs := #[.int .i64 0, .int .i64 0, .int .i64 0]) (t := 40) ?hr ?_; (case hd => rfl); (case hg => rfl); (case hr => first | (go_simp; done) | (go_simp; rfl)); intro gb105 hg w7 hbox hb; have n0_ := Aside0.mk (below_step (qw0f6 HB.out) hb); have n1_ := Aside0.mk (hbox); have n2_ := Aside0.mk ((by rw [hg]; exact (below_size (qw0f6 HB.out)) : w.heap.size ≤ gb105)); have n3_ := Aside0.mk ((by rw [hg]; exact (below_size (qw0f6 HB.out)) : w.heap.size ≤ gb105)); clear HB; have HB := n0_; have BK105 := n1_; have GW105 := n2_; have GE105 := n3_; clear n0_ n1_ n2_ n3_; clear hb hbox hg; have hcz8_0 : w7.cell? ⟨gb105, 0, none⟩ = some (.int .i64 0) := (blk_cell BK105.out 0).trans rfl; have hcz8_1 : w7.cell? ⟨gb105, 1, none⟩ = some (.int .i64 0) := (blk_cell BK105.out 1).trans rfl; have hcz8_2 : w7.cell? ⟨gb105, 2, none⟩ = some (.int .i64 0) := (blk_cell BK105.out 2).trans rfl; have hfz8_0 := blk_frozen BK105.out 0; have hfz8_1 := blk_frozen BK105.out 1; have hfz8_2 := blk_frozen BK105.out 2) | ((with_reducible refine gate_dst (N := 4) rfl ?_); refine box_event ?hg (N := 4) ?hd (cs := #[.slice none 0 0, .int .i64 0]) (t := 30) ?hr ?_; (case hd => rfl); (case hg => rfl); (case hr => first | (go_simp; done) | (go_simp; rfl)); intro gb106 hg w9 hbox hb; have n0_ := Aside0.mk (blk_below (g := gb105) (o := .cells #[.int .i64 (wrap64 (1 + (Int.tmod t102 4))), .int .i64 (wrap64 (1 + (Int.tmod t103 20))), .int .i64 (wrap64 (1 + (Int.tmod t104 20)))] 40 (0, 0)) (by (with_reducible repeat (first | refine blk_drewN ?_ _ | refine blk_drew ?_ | refine blk_alloc ?_ _)); refine blk_put (cs := #[.int .i64 (wrap64 (1 + (Int.tmod t102 4))), .int .i64 (wrap64 (1 + (Int.tmod t103 20))), .int .i64 0]) ?_ 2 _ rfl; (with_reducible repeat (first | refine blk_drewN ?_ _ | refine blk_drew ?_ | refine blk_alloc ?_ _)); refine blk_put (cs := #[.int .i64 (wrap64 (1 + (Int.tmod t102 4))), .int .i64 0, .int .i64 0]) ?_ 1 _ rfl; (with_reducible repeat (first | refine blk_drewN ?_ _ | refine blk_drew ?_ | refine blk_alloc ?_ _)); refine blk_put (cs := #[.int .i64 0, .int .i64 0, .int .i64 0]) ?_ 0 _ rfl; (with_reducible repeat (first | refine blk_drewN ?_ _ | refine blk_drew ?_ | refine blk_alloc ?_ _)); exact BK105.out) hb); have n1_ := Aside0.mk (below_step (qw1f6 HB.out GE105.out) hb); have n2_ := Aside0.mk (hbox); have n3_ := Aside0.mk ((by rw [hg]; exact (below_size (qw1f6 HB.out GE105.out)) : w.heap.size ≤ gb106)); have n4_ := Aside0.mk ((by rw [hg]; exact (below_size (qw1f6 HB.out GE105.out)) : w.heap.size ≤ gb106)); have n5_ := Aside0.mk ((by rw [hg]; exact Nat.ne_of_lt (blk_lt (g := gb105) (o := .cells #[.int .i64 (wrap64 (1 + (Int.tmod t102 4))), .int .i64 (wrap64 (1 + (Int.tmod t103 20))), .int .i64 (wrap64 (1 + (Int.tmod t104 20)))] 40 (0, 0)) (by (with_reducible repeat (first | refine blk_drewN ?_ _ | refine blk_drew ?_ | refine blk_alloc ?_ _)); refine blk_put (cs := #[.int .i64 (wrap64 (1 + (Int.tmod t102 4))), .int .i64 (wrap64 (1 + (Int.tmod t103 20))), .int .i64 0]) ?_ 2 _ rfl; (with_reducible repeat (first | refine blk_drewN ?_ _ | refine blk_drew ?_ | refine blk_alloc ?_ _)); refine blk_put (cs := #[.int .i64 (wrap64 (1 + (Int.tmod t102 4))), .int .i64 0, .int .i64 0]) ?_ 1 _ rfl; (with_reducible repeat (first | refine blk_drewN ?_ _ | refine blk_drew ?_ | refine blk_alloc ?_ _)); refine blk_put (cs := #[.int .i64 0, .int .i64 0, .int .i64 0]) ?_ 0 _ rfl; (with_reducible repeat (first | refine blk_drewN ?_ _ | refine blk_drew ?_ | refine blk_alloc ?_ _)); exact BK105.out)) : gb105 ≠ gb106)); have n6_ := Aside0.mk ((by rw [hg]; exact Nat.ne_of_gt (blk_lt (g := gb105) (o := .cells #[.int .i64 (wrap64 (1 + (Int.tmod t102 4))), .int .i64 (wrap64 (1 + (Int.tmod t103 20))), .int .i64 (wrap64 (1 + (Int.tmod t104 20)))] 40 (0, 0)) (by (with_reducible repeat (first | refine blk_drewN ?_ _ | refine blk_drew ?_ | refine blk_alloc ?_ _)); refine blk_put (cs := #[.int .i64 (wrap64 (1 + (Int.tmod t102 4))), .int .i64 (wrap64 (1 + (Int.tmod t103 20))), .int .i64 0]) ?_ 2 _ rfl; (with_reducible repeat (first | refine blk_drewN ?_ _ | refine blk_drew ?_ | refine blk_alloc ?_ _)); refine blk_put (cs := #[.int .i64 (wrap64 (1 + (Int.tmod t102 4))), .int .i64 0, .int .i64 0]) ?_ 1 _ rfl; (with_reducible repeat (first | refine blk_drewN ?_ _ | refine blk_drew ?_ | refine blk_alloc ?_ _)); refine blk_put (cs := #[.int .i64 0, .int .i64 0, .int .i64 0]) ?_ 0 _ rfl; (with_reducible repeat (first | refine blk_drewN ?_ _ | refine blk_drew ?_ | refine blk_alloc ?_ _)); exact BK105.out)) : gb106 ≠ gb105)); clear BK105; clear HB; have BK105 := n0_; have HB := n1_; have BK106 := n2_; have GW106 := n3_; have GE106 := n4_; have NB105_106 := n5_; have NB106_105 := n6_; clear n0_ n1_ n2_ n3_ n4_ n5_ n6_; clear hb hbox hg; have hnb10 := NB106_105.out; have hnc10 := NB105_106.out; have hcz11_0 : w9.cell? ⟨gb106, 0, none⟩ = some (.slice none 0 0) := (blk_cell BK106.out 0).trans rfl; have hcz11_1 : w9.cell? ⟨gb106, 1, none⟩ = some (.int .i64 0) := (blk_cell BK106.out 1).trans rfl; have hfz11_0 := blk_frozen BK106.out 0; have hfz11_1 := blk_frozen BK106.out 1) | ((with_reducible refine gate_dst (N := 31) rfl ?_); refine Kd.R_lit (Kd.int .i64) _ 3 ?hg (N := 31) ?hd (xs := ([] : List Int)) (inner := []) (ok := fun _ => True) (okp := fun _ => True) ?hr ?hp (fun _ hk => hk) trivial (Below.refl _ _) (Nat.le_refl _) (by simp) ?_; (case hd => rfl); (case hg => rfl); (case hr => first | (go_simp; done) | (go_simp; rfl)); (case hp => exact (Reps.none _ _)); intro v108 w12 ho13 hb hg_ hnew_; clear hg_ hnew_; (first | rw [← Ny107.out] at ho13 | (simp only [Int.reduceToNat] at ho13; rw [← Ny107.out] at ho13)); have n0_ := Aside0.mk (Kd.R_lower ho13 (below_size (qw2f6 HB.out GE105.out GE106.out))); have n1_ := Aside0.mk (blk_below (g := gb105) (o := .cells #[.int .i64 (wrap64 (1 + (Int.tmod t102 4))), .int .i64 (wrap64 (1 + (Int.tmod t103 20))), .int .i64 (wrap64 (1 + (Int.tmod t104 20)))] 40 (0, 0)) (by (with_reducible repeat (first | refine blk_drewN ?_ _ | refine blk_drew ?_ | refine blk_alloc ?_ _)); refine blk_far ?_ NB105_106.out _; (with_reducible repeat (first | refine blk_drewN ?_ _ | refine blk_drew ?_ | refine blk_alloc ?_ _)); refine blk_far ?_ NB105_106.out _; (with_reducible repeat (first | refine blk_drewN ?_ _ | refine blk_drew ?_ | refine blk_alloc ?_ _)); exact BK105.out) hb); have n2_ := Aside0.mk (blk_below (g := gb106) (o := .cells #[.slice none 0 0, .int .i64 0] 30 (0, 0)) (by (with_reducible repeat (first | refine blk_drewN ?_ _ | refine blk_drew ?_ | refine blk_alloc ?_ _)); refine blk_put (cs := #[.slice none 0 0, .int .i64 0]) ?_ 1 _ rfl; (with_reducible repeat (first | refine blk_drewN ?_ _ | refine blk_drew ?_ | refine blk_alloc ?_ _)); refine blk_put (cs := #[.slice none 0 0, .int .i64 0]) ?_ 0 _ rfl; (with_reducible repeat (first | refine blk_drewN ?_ _ | refine blk_drew ?_ | refine blk_alloc ?_ _)); exact BK106.out) hb); have n3_ := Aside0.mk (below_step (qw2f6 HB.out GE105.out GE106.out) hb); clear BK105; clear BK106; clear HB; have HO109 := n0_; have BK105 := n1_; have BK106 := n2_; have HB := n3_; clear n0_ n1_ n2_ n3_; clear hb ho13)); try go_wp2_with (first | (go_at_call 26; (with_reducible refine (laws_big.calls _ _ l0 false _ ?side1 ?side2 A2.out).mono ?_); (case side1 => repeat (first | exact HR0.out | (with_reducible refine Kd.C_alloc ?_ _) | (with_reducible refine Kd.C_drewN ?_ _) | (with_reducible refine Kd.C_drew ?_))); (case side2 => exact HC0.out); rintro e w' ⟨rfl, ⟨nd, rfl⟩⟩; (try first | exact ⟨rfl, _, World.drewN_drewN _ _ _⟩ | exact ⟨rfl, _, Eq.trans (World.drewN_drewN _ _ _) (congrArg (World.drewN _) (Nat.add_assoc _ _ _))⟩)) | (go_at_call 27; (with_reducible refine (laws_at.calls _ _ l0 0 t102 _ ?side1 ?side2 A4.out).mono ?_); (case side1 => repeat (first | exact HR0.out | (with_reducible refine Kd.C_alloc ?_ _) | (with_reducible refine Kd.C_drewN ?_ _) | (with_reducible refine Kd.C_drew ?_))); (case side2 => exact HC0.out); rintro e w' ⟨rfl, ⟨nd, rfl⟩⟩; (try first | exact ⟨rfl, _, World.drewN_drewN _ _ _⟩ | exact ⟨rfl, _, Eq.trans (World.drewN_drewN _ _ _) (congrArg (World.drewN _) (Nat.add_assoc _ _ _))⟩)) | (go_at_call 27; (with_reducible refine (laws_at.calls _ _ l0 1 t103 _ ?side1 ?side2 A5.out).mono ?_); (case side1 => repeat (first | exact HR0.out | (with_reducible refine Kd.C_alloc ?_ _) | (with_reducible refine Kd.C_drewN ?_ _) | (with_reducible refine Kd.C_drew ?_))); (case side2 => exact HC0.out); rintro e w' ⟨rfl, ⟨nd, rfl⟩⟩; (try first | exact ⟨rfl, _, World.drewN_drewN _ _ _⟩ | exact ⟨rfl, _, Eq.trans (World.drewN_drewN _ _ _) (congrArg (World.drewN _) (Nat.add_assoc _ _ _))⟩)) | (go_at_call 27; (with_reducible refine (laws_at.calls _ _ l0 2 t104 _ ?side1 ?side2 A6.out).mono ?_); (case side1 => repeat (first | exact HR0.out | (with_reducible refine Kd.C_alloc ?_ _) | (with_reducible refine Kd.C_drewN ?_ _) | (with_reducible refine Kd.C_drew ?_))); (case side2 => exact HC0.out); rintro e w' ⟨rfl, ⟨nd, rfl⟩⟩; (try first | exact ⟨rfl, _, World.drewN_drewN _ _ _⟩ | exact ⟨rfl, _, Eq.trans (World.drewN_drewN _ _ _) (congrArg (World.drewN _) (Nat.add_assoc _ _ _))⟩)) | ((with_reducible refine gate_dst (N := 3) rfl ?_); refine box_event ?hg (N := 3) ?hd (cs := #[.int .i64 0, .int .i64 0, .int .i64 0]) (t := 40) ?hr ?_; (case hd => rfl); (case hg => rfl); (case hr => first | (go_simp; done) | (go_simp; rfl)); intro gb105 hg w7 hbox hb; have n0_ := Aside0.mk (below_step (qw0f6 HB.out) hb); have n1_ := Aside0.mk (hbox); have n2_ := Aside0.mk ((by rw [hg]; exact (below_size (qw0f6 HB.out)) : w.heap.size ≤ gb105)); have n3_ := Aside0.mk ((by rw [hg]; exact (below_size (qw0f6 HB.out)) : w.heap.size ≤ gb105)); clear HB; have HB := n0_; have BK105 := n1_; have GW105 := n2_; have GE105 := n3_; clear n0_ n1_ n2_ n3_; clear hb hbox hg; have hcz8_0 : w7.cell? ⟨gb105, 0, none⟩ = some (.int .i64 0) := (blk_cell BK105.out 0).trans rfl; have hcz8_1 : w7.cell? ⟨gb105, 1, none⟩ = some (.int .i64 0) := (blk_cell BK105.out 1).trans rfl; have hcz8_2 : w7.cell? ⟨gb105, 2, none⟩ = some (.int .i64 0) := (blk_cell BK105.out 2).trans rfl; have hfz8_0 := blk_frozen BK105.out 0; have hfz8_1 := blk_frozen BK105.out 1; have hfz8_2 := blk_frozen BK105.out 2) | ((with_reducible refine gate_dst (N := 4) rfl ?_); refine box_event ?hg (N := 4) ?hd (cs := #[.slice none 0 0, .int .i64 0]) (t := 30) ?hr ?_; (case hd => rfl); (case hg => rfl); (case hr => first | (go_simp; done) | (go_simp; rfl)); intro gb106 hg w9 hbox hb; have n0_ := Aside0.mk (blk_below (g := gb105) (o := .cells #[.int .i64 (wrap64 (1 + (Int.tmod t102 4))), .int .i64 (wrap64 (1 + (Int.tmod t103 20))), .int .i64 (wrap64 (1 + (Int.tmod t104 20)))] 40 (0, 0)) (by (with_reducible repeat (first | refine blk_drewN ?_ _ | refine blk_drew ?_ | refine blk_alloc ?_ _)); refine blk_put (cs := #[.int .i64 (wrap64 (1 + (Int.tmod t102 4))), .int .i64 (wrap64 (1 + (Int.tmod t103 20))), .int .i64 0]) ?_ 2 _ rfl; (with_reducible repeat (first | refine blk_drewN ?_ _ | refine blk_drew ?_ | refine blk_alloc ?_ _)); refine blk_put (cs := #[.int .i64 (wrap64 (1 + (Int.tmod t102 4))), .int .i64 0, .int .i64 0]) ?_ 1 _ rfl; (with_reducible repeat (first | refine blk_drewN ?_ _ | refine blk_drew ?_ | refine blk_alloc ?_ _)); refine blk_put (cs := #[.int .i64 0, .int .i64 0, .int .i64 0]) ?_ 0 _ rfl; (with_reducible repeat (first | refine blk_drewN ?_ _ | refine blk_drew ?_ | refine blk_alloc ?_ _)); exact BK105.out) hb); have n1_ := Aside0.mk (below_step (qw1f6 HB.out GE105.out) hb); have n2_ := Aside0.mk (hbox); have n3_ := Aside0.mk ((by rw [hg]; exact (below_size (qw1f6 HB.out GE105.out)) : w.heap.size ≤ gb106)); have n4_ := Aside0.mk ((by rw [hg]; exact (below_size (qw1f6 HB.out GE105.out)) : w.heap.size ≤ gb106)); have n5_ := Aside0.mk ((by rw [hg]; exact Nat.ne_of_lt (blk_lt (g := gb105) (o := .cells #[.int .i64 (wrap64 (1 + (Int.tmod t102 4))), .int .i64 (wrap64 (1 + (Int.tmod t103 20))), .int .i64 (wrap64 (1 + (Int.tmod t104 20)))] 40 (0, 0)) (by (with_reducible repeat (first | refine blk_drewN ?_ _ | refine blk_drew ?_ | refine blk_alloc ?_ _)); refine blk_put (cs := #[.int .i64 (wrap64 (1 + (Int.tmod t102 4))), .int .i64 (wrap64 (1 + (Int.tmod t103 20))), .int .i64 0]) ?_ 2 _ rfl; (with_reducible repeat (first | refine blk_drewN ?_ _ | refine blk_drew ?_ | refine blk_alloc ?_ _)); refine blk_put (cs := #[.int .i64 (wrap64 (1 + (Int.tmod t102 4))), .int .i64 0, .int .i64 0]) ?_ 1 _ rfl; (with_reducible repeat (first | refine blk_drewN ?_ _ | refine blk_drew ?_ | refine blk_alloc ?_ _)); refine blk_put (cs := #[.int .i64 0, .int .i64 0, .int .i64 0]) ?_ 0 _ rfl; (with_reducible repeat (first | refine blk_drewN ?_ _ | refine blk_drew ?_ | refine blk_alloc ?_ _)); exact BK105.out)) : gb105 ≠ gb106)); have n6_ := Aside0.mk ((by rw [hg]; exact Nat.ne_of_gt (blk_lt (g := gb105) (o := .cells #[.int .i64 (wrap64 (1 + (Int.tmod t102 4))), .int .i64 (wrap64 (1 + (Int.tmod t103 20))), .int .i64 (wrap64 (1 + (Int.tmod t104 20)))] 40 (0, 0)) (by (with_reducible repeat (first | refine blk_drewN ?_ _ | refine blk_drew ?_ | refine blk_alloc ?_ _)); refine blk_put (cs := #[.int .i64 (wrap64 (1 + (Int.tmod t102 4))), .int .i64 (wrap64 (1 + (Int.tmod t103 20))), .int .i64 0]) ?_ 2 _ rfl; (with_reducible repeat (first | refine blk_drewN ?_ _ | refine blk_drew ?_ | refine blk_alloc ?_ _)); refine blk_put (cs := #[.int .i64 (wrap64 (1 + (Int.tmod t102 4))), .int .i64 0, .int .i64 0]) ?_ 1 _ rfl; (with_reducible repeat (first | refine blk_drewN ?_ _ | refine blk_drew ?_ | refine blk_alloc ?_ _)); refine blk_put (cs := #[.int .i64 0, .int .i64 0, .int .i64 0]) ?_ 0 _ rfl; (with_reducible repeat (first | refine blk_drewN ?_ _ | refine blk_drew ?_ | refine blk_alloc ?_ _)); exact BK105.out)) : gb106 ≠ gb105)); clear BK105; clear HB; have BK105 := n0_; have HB := n1_; have BK106 := n2_; have GW106 := n3_; have GE106 := n4_; have NB105_106 := n5_; have NB106_105 := n6_; clear n0_ n1_ n2_ n3_ n4_ n5_ n6_; clear hb hbox hg; have hnb10 := NB106_105.out; have hnc10 := NB105_106.out; have hcz11_0 : w9.cell? ⟨gb106, 0, none⟩ = some (.slice none 0 0) := (blk_cell BK106.out 0).trans rfl; have hcz11_1 : w9.cell? ⟨gb106, 1, none⟩ = some (.int .i64 0) := (blk_cell BK106.out 1).trans rfl; have hfz11_0 := blk_frozen BK106.out 0; have hfz11_1 := blk_frozen BK106.out 1) | ((with_reducible refine gate_dst (N := 31) rfl ?_); refine Kd.R_lit (Kd.int .i64) _ 3 ?hg (N := 31) ?hd (xs := ([] : List Int)) (inner := []) (ok := fun _ => True) (okp := fun _ => True) ?hr ?hp (fun _ hk => hk) trivial (Below.refl _ _) (Nat.le_refl _) (by simp) ?_; (case hd => rfl); (case hg => rfl); (case hr => first | (go_simp; done) | (go_simp; rfl)); (case hp => exact (Reps.none _ _)); intro v108 w12 ho13 hb hg_ hnew_; clear hg_ hnew_; (first | rw [← Ny107.out] at ho13 | (simp only [Int.reduceToNat] at ho13; rw [← Ny107.out] at ho13)); have n0_ := Aside0.mk (Kd.R_lower ho13 (below_size (qw2f6 HB.out GE105.out GE106.out))); have n1_ := Aside0.mk (blk_below (g := gb105) (o := .cells #[.int .i64 (wrap64 (1 + (Int.tmod t102 4))), .int .i64 (wrap64 (1 + (Int.tmod t103 20))), .int .i64 (wrap64 (1 + (Int.tmod t104 20)))] 40 (0, 0)) (by (with_reducible repeat (first | refine blk_drewN ?_ _ | refine blk_drew ?_ | refine blk_alloc ?_ _)); refine blk_far ?_ NB105_106.out _; (with_reducible repeat (first | refine blk_drewN ?_ _ | refine blk_drew ?_ | refine blk_alloc ?_ _)); refine blk_far ?_ NB105_106.out _; (with_reducible repeat (first | refine blk_drewN ?_ _ | refine blk_drew ?_ | refine blk_alloc ?_ _)); exact BK105.out) hb); have n2_ := Aside0.mk (blk_below (g := gb106) (o := .cells #[.slice none 0 0, .int .i64 0] 30 (0, 0)) (by (with_reducible repeat (first | refine blk_drewN ?_ _ | refine blk_drew ?_ | refine blk_alloc ?_ _)); refine blk_put (cs := #[.slice none 0 0, .int .i64 0]) ?_ 1 _ rfl; (with_reducible repeat (first | refine blk_drewN ?_ _ | refine blk_drew ?_ | refine blk_alloc ?_ _)); refine blk_put (cs := #[.slice none 0 0, .int .i64 0]) ?_ 0 _ rfl; (with_reducible repeat (first | refine blk_drewN ?_ _ | refine blk_drew ?_ | refine blk_alloc ?_ _)); exact BK106.out) hb); have n3_ := Aside0.mk (below_step (qw2f6 HB.out GE105.out GE106.out) hb); clear BK105; clear BK106; clear HB; have HO109 := n0_; have BK105 := n1_; have BK106 := n2_; have HB := n3_; clear n0_ n1_ n2_ n3_; clear hb ho13)))
  go_loopg [5, 6, 7, 8] k (fun kq v5 v6 v7 v8 w' => ∃ (x5_1 : List Int) (x6_1 : Int) (x7_1 : Int) (x8_1 : Int) (x107000_1 : List Int) (x107001_1 : Int) (u107000 : Value), v6 = .int .i64 x6_1 ∧ v7 = .int .i64 x7_1 ∧ v8 = .int .i64 x8_1 ∧ Aside0 (laws_FnLock.l0 kq l0 x5_1 x6_1 x7_1 x8_1 (wrap64 (1 + (Int.tmod t102 4))) (wrap64 (1 + (Int.tmod t103 20))) (wrap64 (1 + (Int.tmod t104 20))) x107000_1 x107001_1 = some r) ∧ Aside0 (kq ≤ k) ∧ Aside0 (Kd.R (Kd.int .i64) 3 w' w.heap.size (fun k_ => some k_ ≠ (u107000 : Value).ownBlock) v5 x5_1) ∧ Aside0 (Kd.R (Kd.int .i64) 3 w' w.heap.size (fun k_ => some k_ ≠ (v5 : Value).ownBlock) u107000 x107000_1) ∧ Aside0 (w'.heap[gb105]? = some (.cells #[.int .i64 (wrap64 (1 + (Int.tmod t102 4))), .int .i64 (wrap64 (1 + (Int.tmod t103 20))), .int .i64 (wrap64 (1 + (Int.tmod t104 20)))] 40 (0, 0))) ∧ Aside0 (w'.heap[gb106]? = some (.cells #[u107000, .int .i64 x107001_1] 30 (0, 0))) ∧ Aside0 (Below w.heap.size w w'))
  case atStart => exact ⟨(y107), (0), (0), (3), (([] : List Int)), (0), (.slice none 0 0), (by first | rfl | (simp; done) | (simp [*]; done)), (by first | rfl | (simp; done) | (simp [*]; done)), (by first | rfl | (simp; done) | (simp [*]; done)), H', ⟨Nat.le_refl _⟩, ⟨by (with_reducible repeat (first | apply Kd.R_alloc | apply Kd.R_drewN | apply Kd.R_drew)); exact Kd.R_mono HO109.out (fun _ hk => (by simp [Value.ownBlock]))⟩, ⟨by first | exact Kd.R_nil _ _ _ _ _ | exact Kd.N_nil _ _ _ _ _ | exact Kd.V_nil _ _ _ _ _ | exact Kd.Q_nil _ _ _ _ _ | exact Kd.S_nil _ _ _ _ _⟩, ⟨by (with_reducible repeat (first | refine blk_drewN ?_ _ | refine blk_drew ?_ | refine blk_alloc ?_ _)); exact BK105.out⟩, ⟨by (with_reducible repeat (first | refine blk_drewN ?_ _ | refine blk_drew ?_ | refine blk_alloc ?_ _)); exact BK106.out⟩, ⟨by repeat (first | (with_reducible first | exact HB.out | apply below_alloc | apply pw_below_drewN | apply below_drew1 | refine below_set ?_ GE105.out | refine below_set ?_ GE106.out) | exact HB.out)⟩⟩
  case round =>
   clear H'
   try clear c1
   try clear p2
   try clear c3
   try clear c6
   try clear p6
   try clear c10
   try clear hcz11_0
   try clear hcz11_1
   try clear hcz8_0
   try clear hcz8_1
   try clear hcz8_2
   try clear hfz11_0
   try clear hfz11_1
   try clear hfz8_0
   try clear hfz8_1
   try clear hfz8_2
   obtain ⟨x5_1, x6_1, x7_1, x8_1, x107000_1, x107001_1, u107000, rfl, rfl, rfl, HA, HK1, HO_5, HO_107000, BK105, BK106, HB⟩ := hrel
   cases gk with
   | zero => exact absurd HA.out (by simp [laws_FnLock.l0])
   | succ k1 =>
    have H := HA.out
    clear HA
    simp only [laws_FnLock.l0] at H
    by_cases c14 : x8_1 < 40
    ·
     rw [if_pos c14] at H
     have c14b0 : decide (x8_1 < 40) = true := decide_eq_true c14
     clear c14
     replace H := Option.bind_eq_some_iff.mp H
     obtain ⟨t110, A150, H⟩ := H
     replace H : ((impl_LockedAt.f x107000_1 x107001_1 (wrap64 (x7_1 + (Int.tmod t110 7)))).bind fun t111 => (if (t111 != (decide ((wrap64 (x7_1 + (Int.tmod t110 7))) < x6_1))) = true then (some false) else ((laws_at.f l0 (wrap64 (x8_1 + 1))).bind fun t112 => (if (Int.tmod t112 5) = 0 then ((impl_LockGood.f k1 (wrap64 (1 + (Int.tmod t102 4))) (wrap64 (1 + (Int.tmod t103 20))) (wrap64 (1 + (Int.tmod t104 20))) x107000_1 x107001_1 (wrap64 (x7_1 + (Int.tmod t110 7)))).bind fun bt113 => (if (bt113.2.2 != (decide ((wrap64 (x7_1 + (Int.tmod t110 7))) ≥ x6_1))) = true then (some false) else (if bt113.2.2 = true then (laws_FnLock.l0 k1 l0 (([] : List Int)) x6_1 (wrap64 (x7_1 + (Int.tmod t110 7))) (wrap64 (x8_1 + 1)) (wrap64 (1 + (Int.tmod t102 4))) (wrap64 (1 + (Int.tmod t103 20))) (wrap64 (1 + (Int.tmod t104 20))) bt113.1 bt113.2.1) else (laws_FnLock.l0 k1 l0 x5_1 x6_1 (wrap64 (x7_1 + (Int.tmod t110 7))) (wrap64 (x8_1 + 1)) (wrap64 (1 + (Int.tmod t102 4))) (wrap64 (1 + (Int.tmod t103 20))) (wrap64 (1 + (Int.tmod t104 20))) bt113.1 bt113.2.1)))) else ((impl_LockFail.f k1 (wrap64 (1 + (Int.tmod t102 4))) (wrap64 (1 + (Int.tmod t103 20))) (wrap64 (1 + (Int.tmod t104 20))) x107000_1 x107001_1 (wrap64 (x7_1 + (Int.tmod t110 7)))).bind fun bt122 => (if (bt122.2.2 != (decide ((wrap64 (x7_1 + (Int.tmod t110 7))) ≥ x6_1))) = true then (some false) else (if bt122.2.2 = true then (if x5_1.length < 17592186044416 then (laws_FnLock.l1 k1 l0 (x5_1 ++ [wrap64 (x7_1 + (Int.tmod t110 7))]) x6_1 (wrap64 (x7_1 + (Int.tmod t110 7))) x8_1 0 0 (wrap64 (1 + (Int.tmod t102 4))) (wrap64 (1 + (Int.tmod t103 20))) (wrap64 (1 + (Int.tmod t104 20))) bt122.1 bt122.2.1) else (none)) else (laws_FnLock.j2 k1 l0 x5_1 x6_1 (wrap64 (x7_1 + (Int.tmod t110 7))) x8_1 (wrap64 (1 + (Int.tmod t102 4))) (wrap64 (1 + (Int.tmod t103 20))) (wrap64 (1 + (Int.tmod t104 20))) bt122.1 bt122.2.1)))))))) = some r := H
     have A15 := Aside0.mk A150
     clear A150
     replace H := Option.bind_eq_some_iff.mp H
     obtain ⟨t111, A160, H⟩ := H
     replace H : (if (t111 != (decide ((wrap64 (x7_1 + (Int.tmod t110 7))) < x6_1))) = true then (some false) else ((laws_at.f l0 (wrap64 (x8_1 + 1))).bind fun t112 => (if (Int.tmod t112 5) = 0 then ((impl_LockGood.f k1 (wrap64 (1 + (Int.tmod t102 4))) (wrap64 (1 + (Int.tmod t103 20))) (wrap64 (1 + (Int.tmod t104 20))) x107000_1 x107001_1 (wrap64 (x7_1 + (Int.tmod t110 7)))).bind fun bt113 => (if (bt113.2.2 != (decide ((wrap64 (x7_1 + (Int.tmod t110 7))) ≥ x6_1))) = true then (some false) else (if bt113.2.2 = true then (laws_FnLock.l0 k1 l0 (([] : List Int)) x6_1 (wrap64 (x7_1 + (Int.tmod t110 7))) (wrap64 (x8_1 + 1)) (wrap64 (1 + (Int.tmod t102 4))) (wrap64 (1 + (Int.tmod t103 20))) (wrap64 (1 + (Int.tmod t104 20))) bt113.1 bt113.2.1) else (laws_FnLock.l0 k1 l0 x5_1 x6_1 (wrap64 (x7_1 + (Int.tmod t110 7))) (wrap64 (x8_1 + 1)) (wrap64 (1 + (Int.tmod t102 4))) (wrap64 (1 + (Int.tmod t103 20))) (wrap64 (1 + (Int.tmod t104 20))) bt113.1 bt113.2.1)))) else ((impl_LockFail.f k1 (wrap64 (1 + (Int.tmod t102 4))) (wrap64 (1 + (Int.tmod t103 20))) (wrap64 (1 + (Int.tmod t104 20))) x107000_1 x107001_1 (wrap64 (x7_1 + (Int.tmod t110 7)))).bind fun bt122 => (if (bt122.2.2 != (decide ((wrap64 (x7_1 + (Int.tmod t110 7))) ≥ x6_1))) = true then (some false) else (if bt122.2.2 = true then (if x5_1.length < 17592186044416 then (laws_FnLock.l1 k1 l0 (x5_1 ++ [wrap64 (x7_1 + (Int.tmod t110 7))]) x6_1 (wrap64 (x7_1 + (Int.tmod t110 7))) x8_1 0 0 (wrap64 (1 + (Int.tmod t102 4))) (wrap64 (1 + (Int.tmod t103 20))) (wrap64 (1 + (Int.tmod t104 20))) bt122.1 bt122.2.1) else (none)) else (laws_FnLock.j2 k1 l0 x5_1 x6_1 (wrap64 (x7_1 + (Int.tmod t110 7))) x8_1 (wrap64 (1 + (Int.tmod t102 4))) (wrap64 (1 + (Int.tmod t103 20))) (wrap64 (1 + (Int.tmod t104 20))) bt122.1 bt122.2.1))))))) = some r := H
     have A16 := Aside0.mk A160
     clear A160
     by_cases c17 : (t111 != (decide ((wrap64 (x7_1 + (Int.tmod t110 7))) < x6_1))) = true
     ·
      rw [if_pos c17] at H
      have c17b0 : (t111 != (decide ((wrap64 (x7_1 + (Int.tmod t110 7))) < x6_1))) = true := c17
      (try (have c17b1 : decide (t111 = (decide ((wrap64 (x7_1 + (Int.tmod t110 7))) < x6_1))) = false := by simpa using c17))
      (try (have c17b2 : (t111 == (decide ((wrap64 (x7_1 + (Int.tmod t110 7))) < x6_1))) = false := by simpa using c17))
      (try (have c17b3 : ¬ (t111 = (decide ((wrap64 (x7_1 + (Int.tmod t110 7))) < x6_1))) := by simpa using c17))
      clear c17
      exact absurd ((Option.some.inj H).trans hrt) (by simp)
     ·
      rw [if_neg c17] at H
      have c17b0 : (t111 != (decide ((wrap64 (x7_1 + (Int.tmod t110 7))) < x6_1))) = false := by simpa using c17
      (try (have c17b1 : decide (t111 = (decide ((wrap64 (x7_1 + (Int.tmod t110 7))) < x6_1))) = true := by simpa using c17))
      (try (have c17b2 : (t111 == (decide ((wrap64 (x7_1 + (Int.tmod t110 7))) < x6_1))) = true := by simpa using c17))
      clear c17
      replace H := Option.bind_eq_some_iff.mp H
      obtain ⟨t112, A180, H⟩ := H
      replace H : (if (Int.tmod t112 5) = 0 then ((impl_LockGood.f k1 (wrap64 (1 + (Int.tmod t102 4))) (wrap64 (1 + (Int.tmod t103 20))) (wrap64 (1 + (Int.tmod t104 20))) x107000_1 x107001_1 (wrap64 (x7_1 + (Int.tmod t110 7)))).bind fun bt113 => (if (bt113.2.2 != (decide ((wrap64 (x7_1 + (Int.tmod t110 7))) ≥ x6_1))) = true then (some false) else (if bt113.2.2 = true then (laws_FnLock.l0 k1 l0 (([] : List Int)) x6_1 (wrap64 (x7_1 + (Int.tmod t110 7))) (wrap64 (x8_1 + 1)) (wrap64 (1 + (Int.tmod t102 4))) (wrap64 (1 + (Int.tmod t103 20))) (wrap64 (1 + (Int.tmod t104 20))) bt113.1 bt113.2.1) else (laws_FnLock.l0 k1 l0 x5_1 x6_1 (wrap64 (x7_1 + (Int.tmod t110 7))) (wrap64 (x8_1 + 1)) (wrap64 (1 + (Int.tmod t102 4))) (wrap64 (1 + (Int.tmod t103 20))) (wrap64 (1 + (Int.tmod t104 20))) bt113.1 bt113.2.1)))) else ((impl_LockFail.f k1 (wrap64 (1 + (Int.tmod t102 4))) (wrap64 (1 + (Int.tmod t103 20))) (wrap64 (1 + (Int.tmod t104 20))) x107000_1 x107001_1 (wrap64 (x7_1 + (Int.tmod t110 7)))).bind fun bt122 => (if (bt122.2.2 != (decide ((wrap64 (x7_1 + (Int.tmod t110 7))) ≥ x6_1))) = true then (some false) else (if bt122.2.2 = true then (if x5_1.length < 17592186044416 then (laws_FnLock.l1 k1 l0 (x5_1 ++ [wrap64 (x7_1 + (Int.tmod t110 7))]) x6_1 (wrap64 (x7_1 + (Int.tmod t110 7))) x8_1 0 0 (wrap64 (1 + (Int.tmod t102 4))) (wrap64 (1 + (Int.tmod t103 20))) (wrap64 (1 + (Int.tmod t104 20))) bt122.1 bt122.2.1) else (none)) else (laws_FnLock.j2 k1 l0 x5_1 x6_1 (wrap64 (x7_1 + (Int.tmod t110 7))) x8_1 (wrap64 (1 + (Int.tmod t102 4))) (wrap64 (1 + (Int.tmod t103 20))) (wrap64 (1 + (Int.tmod t104 20))) bt122.1 bt122.2.1))))) = some r := H
      have A18 := Aside0.mk A180
      clear A180
      by_cases c19 : (Int.tmod t112 5) = 0
      ·
       rw [if_pos c19] at H
       have c19b0 : ((Int.tmod t112 5) == 0) = true := beq_iff_eq.mpr c19
       have c19b1 : ((Int.tmod t112 5) != 0) = false := bne_eq_false_iff_eq.mpr c19
       clear c19
       replace H := Option.bind_eq_some_iff.mp H
       obtain ⟨⟨t113, t116, t117⟩, A200, H⟩ := H
       replace H : (if (t117 != (decide ((wrap64 (x7_1 + (Int.tmod t110 7))) ≥ x6_1))) = true then (some false) else (if t117 = true then (laws_FnLock.l0 k1 l0 (([] : List Int)) x6_1 (wrap64 (x7_1 + (Int.tmod t110 7))) (wrap64 (x8_1 + 1)) (wrap64 (1 + (Int.tmod t102 4))) (wrap64 (1 + (Int.tmod t103 20))) (wrap64 (1 + (Int.tmod t104 20))) t113 t116) else (laws_FnLock.l0 k1 l0 x5_1 x6_1 (wrap64 (x7_1 + (Int.tmod t110 7))) (wrap64 (x8_1 + 1)) (wrap64 (1 + (Int.tmod t102 4))) (wrap64 (1 + (Int.tmod t103 20))) (wrap64 (1 + (Int.tmod t104 20))) t113 t116))) = some r := H
       have A20 := Aside0.mk A200
       clear A200
       by_cases c21 : (t117 != (decide ((wrap64 (x7_1 + (Int.tmod t110 7))) ≥ x6_1))) = true
       ·
        rw [if_pos c21] at H
        have c21b0 : (t117 != (decide ((wrap64 (x7_1 + (Int.tmod t110 7))) ≥ x6_1))) = true := c21
        (try (have c21b1 : decide (t117 = (decide ((wrap64 (x7_1 + (Int.tmod t110 7))) ≥ x6_1))) = false := by simpa using c21))
        (try (have c21b2 : (t117 == (decide ((wrap64 (x7_1 + (Int.tmod t110 7))) ≥ x6_1))) = false := by simpa using c21))
        (try (have c21b3 : ¬ (t117 = (decide ((wrap64 (x7_1 + (Int.tmod t110 7))) ≥ x6_1))) := by simpa using c21))
        clear c21
        exact absurd ((Option.some.inj H).trans hrt) (by simp)
       ·
        rw [if_neg c21] at H
        have c21b0 : (t117 != (decide ((wrap64 (x7_1 + (Int.tmod t110 7))) ≥ x6_1))) = false := by simpa using c21
        (try (have c21b1 : decide (t117 = (decide ((wrap64 (x7_1 + (Int.tmod t110 7))) ≥ x6_1))) = true := by simpa using c21))
        (try (have c21b2 : (t117 == (decide ((wrap64 (x7_1 + (Int.tmod t110 7))) ≥ x6_1))) = true := by simpa using c21))
        clear c21
        by_cases c22 : t117 = true
        ·
         subst c22
         have H1 : (laws_FnLock.l0 k1 l0 (([] : List Int)) x6_1 (wrap64 (x7_1 + (Int.tmod t110 7))) (wrap64 (x8_1 + 1)) (wrap64 (1 + (Int.tmod t102 4))) (wrap64 (1 + (Int.tmod t103 20))) (wrap64 (1 + (Int.tmod t104 20))) t113 t116) = some r := by rw [if_pos rfl] at H; exact H
         clear H
         have H := H1
         clear H1
         obtain ⟨y119, hy119⟩ : ∃ y_ : List Int, y_ = (([] : List Int)) := ⟨_, rfl⟩
         replace H : (laws_FnLock.l0 k1 l0 y119 x6_1 (wrap64 (x7_1 + (Int.tmod t110 7))) (wrap64 (x8_1 + 1)) (wrap64 (1 + (Int.tmod t102 4))) (wrap64 (1 + (Int.tmod t103 20))) (wrap64 (1 + (Int.tmod t104 20))) t113 t116) = some r := by first | (rw [hy119]; with_reducible exact H) | (have H2_ := (Option.bind_some _ _).symm.trans H; rw [hy119]; with_reducible exact H2_) | (have H2_ := (Option.bind_some _ _).symm.trans H; with_reducible exact H2_) | with_reducible exact H | (rw [hy119]; exact H) | exact H
         have Ny119 := Aside0.mk hy119
         clear hy119
         have H' := Aside0.mk H
         clear H
         go_wp2_with (first | (go_at_call 27; (with_reducible refine (laws_at.calls _ _ l0 x8_1 t110 _ ?side1 ?side2 A15.out).mono ?_); (case side1 => repeat (first | exact (Kd.C_below HR0.out HB.out) | (with_reducible refine Kd.C_alloc ?_ _) | (with_reducible refine Kd.C_drewN ?_ _) | (with_reducible refine Kd.C_drew ?_))); (case side2 => exact HC0.out); rintro e w' ⟨rfl, ⟨nd, rfl⟩⟩; (try first | exact ⟨rfl, _, World.drewN_drewN _ _ _⟩ | exact ⟨rfl, _, Eq.trans (World.drewN_drewN _ _ _) (congrArg (World.drewN _) (Nat.add_assoc _ _ _))⟩); have hnb23 := NB106_105.out; have hnc23 := NB105_106.out; have hcz24_0 : wr.cell? ⟨gb106, 0, none⟩ = some (u107000) := (blk_cell BK106.out 0).trans rfl; have hcz24_1 : wr.cell? ⟨gb106, 1, none⟩ = some (.int .i64 x107001_1) := (blk_cell BK106.out 1).trans rfl; have hfz24_0 := blk_frozen BK106.out 0; have hfz24_1 := blk_frozen BK106.out 1; obtain ⟨Ao25, co25, eo25⟩ := Kd.R_slice HO_107000.out; subst eo25) | (go_at_call 22; (with_reducible refine (impl_LockedAt.calls _ _ x107000_1 x107001_1 (wrap64 (x7_1 + (Int.tmod t110 7))) t111 _ ?side1 ?side2 A16.out).mono ?_); (case side1 => repeat (first | exact (Kd.R_reads' HO_107000.out).2.2 | (with_reducible refine Kd.C_alloc ?_ _) | (with_reducible refine Kd.C_drewN ?_ _) | (with_reducible refine Kd.C_drew ?_))); (case side2 => exact (Kd.R_reads' HO_107000.out).2.1); rintro e w26 ⟨rfl, hb⟩; have n0_ := Aside0.mk (Kd.R_below (qrf6 HO_5.out) hb); have n1_ := Aside0.mk (Kd.R_below (qrf6 HO_107000.out) hb); have n2_ := Aside0.mk (blk_below (g := gb105) (o := .cells #[.int .i64 (wrap64 (1 + (Int.tmod t102 4))), .int .i64 (wrap64 (1 + (Int.tmod t103 20))), .int .i64 (wrap64 (1 + (Int.tmod t104 20)))] 40 (0, 0)) (qbf6 BK105.out) hb); have n3_ := Aside0.mk (blk_below (g := gb106) (o := .cells #[.slice Ao25 x107000_1.length co25, .int .i64 x107001_1] 30 (0, 0)) (qbf6 BK106.out) hb); have n4_ := Aside0.mk (below_step (qw2f6 HB.out GE105.out GE106.out) hb); clear HO_5; clear HO_107000; clear BK105; clear BK106; clear HB; have HO_5 := n0_; have HO_107000 := n1_; have BK105 := n2_; have BK106 := n3_; have HB := n4_; clear n0_ n1_ n2_ n3_ n4_; (try clear hb); (try clear hb2); (try clear hk); (try clear hi)) | (go_at_call 27; (with_reducible refine (laws_at.calls _ _ l0 (wrap64 (x8_1 + 1)) t112 _ ?side1 ?side2 A18.out).mono ?_); (case side1 => repeat (first | exact (Kd.C_below HR0.out HB.out) | (with_reducible refine Kd.C_alloc ?_ _) | (with_reducible refine Kd.C_drewN ?_ _) | (with_reducible refine Kd.C_drew ?_))); (case side2 => exact HC0.out); rintro e w' ⟨rfl, ⟨nd, rfl⟩⟩; (try first | exact ⟨rfl, _, World.drewN_drewN _ _ _⟩ | exact ⟨rfl, _, Eq.trans (World.drewN_drewN _ _ _) (congrArg (World.drewN _) (Nat.add_assoc _ _ _))⟩); have hcz27_0 : w26.cell? ⟨gb105, 0, none⟩ = some (.int .i64 (wrap64 (1 + (Int.tmod t102 4)))) := (blk_cell BK105.out 0).trans rfl; have hcz27_1 : w26.cell? ⟨gb105, 1, none⟩ = some (.int .i64 (wrap64 (1 + (Int.tmod t103 20)))) := (blk_cell BK105.out 1).trans rfl; have hcz27_2 : w26.cell? ⟨gb105, 2, none⟩ = some (.int .i64 (wrap64 (1 + (Int.tmod t104 20)))) := (blk_cell BK105.out 2).trans rfl; have hfz27_0 := blk_frozen BK105.out 0; have hfz27_1 := blk_frozen BK105.out 1; have hfz27_2 := blk_frozen BK105.out 2; have hcz28_0 : w26.cell? ⟨gb106, 0, none⟩ = some (.slice Ao25 x107000_1.length co25) := (blk_cell BK106.out 0).trans rfl; have hcz28_1 : w26.cell? ⟨gb106, 1, none⟩ = some (.int .i64 x107001_1) := (blk_cell BK106.out 1).trans rfl; have hfz28_0 := blk_frozen BK106.out 0; have hfz28_1 := blk_frozen BK106.out 1) | (go_at_call 28; (with_reducible refine (impl_LockGood.calls k1 (wrap64 (1 + (Int.tmod t102 4))) (wrap64 (1 + (Int.tmod t103 20))) (wrap64 (1 + (Int.tmod t104 20))) _ _ x107000_1 x107001_1 (wrap64 (x7_1 + (Int.tmod t110 7))) t113 t116 true _ ?side1 ?side2 A20.out).mono ?_); (case side1 => repeat (first | exact (Kd.R_reads' HO_107000.out).2.2 | (with_reducible refine Kd.C_alloc ?_ _) | (with_reducible refine Kd.C_drewN ?_ _) | (with_reducible refine Kd.C_drew ?_))); (case side2 => exact (Kd.R_reads' HO_107000.out).2.1); rintro e w29 ⟨v114, rfl, ho0, hb⟩; have n0_ := Aside0.mk (Kd.R_elder' (qrf6 HO_5.out) (Kd.R_base ho0) hb); have n1_ := Aside0.mk (Kd.R_elder' (qrf6 HO_107000.out) (Kd.R_base ho0) hb); have n2_ := Aside0.mk (Kd.R_lower (Kd.R_new' (Kd.R_new' ho0 (Kd.R_lt (qrf6 HO_5.out))) (Kd.R_lt (qrf6 HO_107000.out))) (below_size (qw2f6 HB.out GE105.out GE106.out))); have n3_ := Aside0.mk (blk_below (g := gb105) (o := .cells #[.int .i64 (wrap64 (1 + (Int.tmod t102 4))), .int .i64 (wrap64 (1 + (Int.tmod t103 20))), .int .i64 (wrap64 (1 + (Int.tmod t104 20)))] 40 (0, 0)) (qbf6 BK105.out) hb); have n4_ := Aside0.mk (blk_below (g := gb106) (o := .cells #[.slice Ao25 x107000_1.length co25, .int .i64 x107001_1] 30 (0, 0)) (qbf6 BK106.out) hb); have n5_ := Aside0.mk (below_step (qw2f6 HB.out GE105.out GE106.out) hb); clear HO_5; clear HO_107000; clear BK105; clear BK106; clear HB; have HO_5 := n0_; have HO_107000 := n1_; have HO115 := n2_; have BK105 := n3_; have BK106 := n4_; have HB := n5_; clear n0_ n1_ n2_ n3_ n4_ n5_; (try clear hb); (try clear hb2); (try clear hk); (try clear hi); (try clear ho0)) | ((with_reducible refine gate_dst (N := 9) rfl ?_); refine box_event ?hg (N := 9) ?hd (cs := #[.slice none 0 0, .int .i64 0]) (t := 30) ?hr ?_; (case hd => rfl); (case hg => rfl); (case hr => first | (go_simp; done) | (go_simp; rfl)); intro gb118 hg w30 hbox hb; have n0_ := Aside0.mk (Kd.R_below (qrf6 HO_5.out) hb); have n1_ := Aside0.mk (Kd.R_below (qrf6 HO_107000.out) hb); have n2_ := Aside0.mk (Kd.R_below (qrf6 HO115.out) hb); have n3_ := Aside0.mk (blk_below (g := gb105) (o := .cells #[.int .i64 (wrap64 (1 + (Int.tmod t102 4))), .int .i64 (wrap64 (1 + (Int.tmod t103 20))), .int .i64 (wrap64 (1 + (Int.tmod t104 20)))] 40 (0, 0)) (qbf6 BK105.out) hb); have n4_ := Aside0.mk (blk_below (g := gb106) (o := .cells #[.slice Ao25 x107000_1.length co25, .int .i64 x107001_1] 30 (0, 0)) (qbf6 BK106.out) hb); have n5_ := Aside0.mk (below_step (qw2f6 HB.out GE105.out GE106.out) hb); have n6_ := Aside0.mk (hbox); have n7_ := Aside0.mk ((by rw [hg]; exact (below_size (qw2f6 HB.out GE105.out GE106.out)) : w.heap.size ≤ gb118)); have n8_ := Aside0.mk ((by rw [hg]; exact (below_size (qw2f6 HB.out GE105.out GE106.out)) : w.heap.size ≤ gb118)); have n9_ := Aside0.mk ((by rw [hg]; exact Nat.ne_of_lt (blk_lt (g := gb105) (o := .cells #[.int .i64 (wrap64 (1 + (Int.tmod t102 4))), .int .i64 (wrap64 (1 + (Int.tmod t103 20))), .int .i64 (wrap64 (1 + (Int.tmod t104 20)))] 40 (0, 0)) (qbf6 BK105.out)) : gb105 ≠ gb118)); have n10_ := Aside0.mk ((by rw [hg]; exact Nat.ne_of_gt (blk_lt (g := gb105) (o := .cells #[.int .i64 (wrap64 (1 + (Int.tmod t102 4))), .int .i64 (wrap64 (1 + (Int.tmod t103 20))), .int .i64 (wrap64 (1 + (Int.tmod t104 20)))] 40 (0, 0)) (qbf6 BK105.out)) : gb118 ≠ gb105)); have n11_ := Aside0.mk ((by rw [hg]; exact Nat.ne_of_lt (blk_lt (g := gb106) (o := .cells #[.slice Ao25 x107000_1.length co25, .int .i64 x107001_1] 30 (0, 0)) (qbf6 BK106.out)) : gb106 ≠ gb118)); have n12_ := Aside0.mk ((by rw [hg]; exact Nat.ne_of_gt (blk_lt (g := gb106) (o := .cells #[.slice Ao25 x107000_1.length co25, .int .i64 x107001_1] 30 (0, 0)) (qbf6 BK106.out)) : gb118 ≠ gb106)); clear HO_5; clear HO_107000; clear HO115; clear BK105; clear BK106; clear HB; have HO_5 := n0_; have HO_107000 := n1_; have HO115 := n2_; have BK105 := n3_; have BK106 := n4_; have HB := n5_; have BK118 := n6_; have GW118 := n7_; have GE118 := n8_; have NB105_118 := n9_; have NB118_105 := n10_; have NB106_118 := n11_; have NB118_106 := n12_; clear n0_ n1_ n2_ n3_ n4_ n5_ n6_ n7_ n8_ n9_ n10_ n11_ n12_; clear hb hbox hg; obtain ⟨Ao31, co31, eo31⟩ := Kd.R_slice HO115.out; subst eo31; have hnb32 := NB118_105.out; have hnc32 := NB105_118.out; have hnb33 := NB118_106.out; have hnc33 := NB106_118.out; have hcz34_0 : w30.cell? ⟨gb118, 0, none⟩ = some (.slice none 0 0) := (blk_cell BK118.out 0).trans rfl; have hcz34_1 : w30.cell? ⟨gb118, 1, none⟩ = some (.int .i64 0) := (blk_cell BK118.out 1).trans rfl; have hfz34_0 := blk_frozen BK118.out 0; have hfz34_1 := blk_frozen BK118.out 1; have hcz35_0 : w30.cell? ⟨gb106, 0, none⟩ = some (.slice Ao25 x107000_1.length co25) := (blk_cell BK106.out 0).trans rfl; have hcz35_1 : w30.cell? ⟨gb106, 1, none⟩ = some (.int .i64 x107001_1) := (blk_cell BK106.out 1).trans rfl; have hfz35_0 := blk_frozen BK106.out 0; have hfz35_1 := blk_frozen BK106.out 1) | ((with_reducible refine gate_dst (N := 69) rfl ?_); refine Kd.R_lit (Kd.int .i64) _ 3 ?hg (N := 69) ?hd (xs := ([] : List Int)) (inner := []) (ok := fun _ => True) (okp := fun _ => True) ?hr ?hp (fun _ hk => hk) trivial (Below.refl _ _) (Nat.le_refl _) (by simp) ?_; (case hd => rfl); (case hg => rfl); (case hr => first | (go_simp; done) | (go_simp; rfl)); (case hp => exact (Reps.none _ _)); intro v120 w36 ho37 hb hg_ hnew_; clear hg_ hnew_; (first | rw [← Ny119.out] at ho37 | (simp only [Int.reduceToNat] at ho37; rw [← Ny119.out] at ho37)); have n0_ := Aside0.mk (Kd.R_elder' (by (with_reducible repeat (first | apply Kd.R_alloc | apply Kd.R_drewN | apply Kd.R_drew)); exact (Kd.R_mono (Kd.R_mono (Kd.R_far (p := ⟨gb106, 1, none⟩) (Kd.R_far (p := ⟨gb106, 0, none⟩) (Kd.R_far (p := ⟨gb118, 1, none⟩) (Kd.R_far (p := ⟨gb118, 0, none⟩) (Kd.R_types (Kd.R_types HO_5.out BK118.out (by decide)) BK106.out (by decide)) (fun _ hk => hk.1.2) (.slice Ao31 t113.length co31)) (fun _ hk => hk.1.2) (.int .i64 t116)) (fun _ hk => hk.2) (.slice Ao31 t113.length co31)) (fun _ hk => hk.2) (.int .i64 t116)) (fun _ h_ => h_.1)) (fun _ h_ => h_.1))) (Kd.R_base ho37) hb); have n1_ := Aside0.mk (Kd.R_elder' (by (with_reducible repeat (first | apply Kd.R_alloc | apply Kd.R_drewN | apply Kd.R_drew)); exact (Kd.R_mono (Kd.R_mono (Kd.R_far (p := ⟨gb106, 1, none⟩) (Kd.R_far (p := ⟨gb106, 0, none⟩) (Kd.R_far (p := ⟨gb118, 1, none⟩) (Kd.R_far (p := ⟨gb118, 0, none⟩) (Kd.R_types (Kd.R_types HO_107000.out BK118.out (by decide)) BK106.out (by decide)) (fun _ hk => hk.1.2) (.slice Ao31 t113.length co31)) (fun _ hk => hk.1.2) (.int .i64 t116)) (fun _ hk => hk.2) (.slice Ao31 t113.length co31)) (fun _ hk => hk.2) (.int .i64 t116)) (fun _ h_ => h_.1)) (fun _ h_ => h_.1))) (Kd.R_base ho37) hb); have n2_ := Aside0.mk (Kd.R_elder' (by (with_reducible repeat (first | apply Kd.R_alloc | apply Kd.R_drewN | apply Kd.R_drew)); exact (Kd.R_mono (Kd.R_mono (Kd.R_far (p := ⟨gb106, 1, none⟩) (Kd.R_far (p := ⟨gb106, 0, none⟩) (Kd.R_far (p := ⟨gb118, 1, none⟩) (Kd.R_far (p := ⟨gb118, 0, none⟩) (Kd.R_types (Kd.R_types HO115.out BK118.out (by decide)) BK106.out (by decide)) (fun _ hk => hk.1.2) (.slice Ao31 t113.length co31)) (fun _ hk => hk.1.2) (.int .i64 t116)) (fun _ hk => hk.2) (.slice Ao31 t113.length co31)) (fun _ hk => hk.2) (.int .i64 t116)) (fun _ h_ => h_.1)) (fun _ h_ => h_.1))) (Kd.R_base ho37) hb); have n3_ := Aside0.mk (Kd.R_lower (Kd.R_new' (Kd.R_new' (Kd.R_new' ho37 (Kd.R_lt (by (with_reducible repeat (first | apply Kd.R_alloc | apply Kd.R_drewN | apply Kd.R_drew)); exact (Kd.R_mono (Kd.R_mono (Kd.R_far (p := ⟨gb106, 1, none⟩) (Kd.R_far (p := ⟨gb106, 0, none⟩) (Kd.R_far (p := ⟨gb118, 1, none⟩) (Kd.R_far (p := ⟨gb118, 0, none⟩) (Kd.R_types (Kd.R_types HO_5.out BK118.out (by decide)) BK106.out (by decide)) (fun _ hk => hk.1.2) (.slice Ao31 t113.length co31)) (fun _ hk => hk.1.2) (.int .i64 t116)) (fun _ hk => hk.2) (.slice Ao31 t113.length co31)) (fun _ hk => hk.2) (.int .i64 t116)) (fun _ h_ => h_.1)) (fun _ h_ => h_.1))))) (Kd.R_lt (by (with_reducible repeat (first | apply Kd.R_alloc | apply Kd.R_drewN | apply Kd.R_drew)); exact (Kd.R_mono (Kd.R_mono (Kd.R_far (p := ⟨gb106, 1, none⟩) (Kd.R_far (p := ⟨gb106, 0, none⟩) (Kd.R_far (p := ⟨gb118, 1, none⟩) (Kd.R_far (p := ⟨gb118, 0, none⟩) (Kd.R_types (Kd.R_types HO_107000.out BK118.out (by decide)) BK106.out (by decide)) (fun _ hk => hk.1.2) (.slice Ao31 t113.length co31)) (fun _ hk => hk.1.2) (.int .i64 t116)) (fun _ hk => hk.2) (.slice Ao31 t113.length co31)) (fun _ hk => hk.2) (.int .i64 t116)) (fun _ h_ => h_.1)) (fun _ h_ => h_.1))))) (Kd.R_lt (by (with_reducible repeat (first | apply Kd.R_alloc | apply Kd.R_drewN | apply Kd.R_drew)); exact (Kd.R_mono (Kd.R_mono (Kd.R_far (p := ⟨gb106, 1, none⟩) (Kd.R_far (p := ⟨gb106, 0, none⟩) (Kd.R_far (p := ⟨gb118, 1, none⟩) (Kd.R_far (p := ⟨gb118, 0, none⟩) (Kd.R_types (Kd.R_types HO115.out BK118.out (by decide)) BK106.out (by decide)) (fun _ hk => hk.1.2) (.slice Ao31 t113.length co31)) (fun _ hk => hk.1.2) (.int .i64 t116)) (fun _ hk => hk.2) (.slice Ao31 t113.length co31)) (fun _ hk => hk.2) (.int .i64 t116)) (fun _ h_ => h_.1)) (fun _ h_ => h_.1))))) (below_size (qw3f6 HB.out GE105.out GE106.out GE118.out))); have n4_ := Aside0.mk (blk_below (g := gb105) (o := .cells #[.int .i64 (wrap64 (1 + (Int.tmod t102 4))), .int .i64 (wrap64 (1 + (Int.tmod t103 20))), .int .i64 (wrap64 (1 + (Int.tmod t104 20)))] 40 (0, 0)) (by (with_reducible repeat (first | refine blk_drewN ?_ _ | refine blk_drew ?_ | refine blk_alloc ?_ _)); refine blk_far ?_ NB105_106.out _; (with_reducible repeat (first | refine blk_drewN ?_ _ | refine blk_drew ?_ | refine blk_alloc ?_ _)); refine blk_far ?_ NB105_106.out _; (with_reducible repeat (first | refine blk_drewN ?_ _ | refine blk_drew ?_ | refine blk_alloc ?_ _)); refine blk_far ?_ NB105_118.out _; (with_reducible repeat (first | refine blk_drewN ?_ _ | refine blk_drew ?_ | refine blk_alloc ?_ _)); refine blk_far ?_ NB105_118.out _; (with_reducible repeat (first | refine blk_drewN ?_ _ | refine blk_drew ?_ | refine blk_alloc ?_ _)); exact BK105.out) hb); have n5_ := Aside0.mk (blk_below (g := gb106) (o := .cells #[.slice Ao31 t113.length co31, .int .i64 t116] 30 (0, 0)) (by (with_reducible repeat (first | refine blk_drewN ?_ _ | refine blk_drew ?_ | refine blk_alloc ?_ _)); refine blk_put (cs := #[.slice Ao31 t113.length co31, .int .i64 x107001_1]) ?_ 1 _ rfl; (with_reducible repeat (first | refine blk_drewN ?_ _ | refine blk_drew ?_ | refine blk_alloc ?_ _)); refine blk_put (cs := #[.slice Ao25 x107000_1.length co25, .int .i64 x107001_1]) ?_ 0 _ rfl; (with_reducible repeat (first | refine blk_drewN ?_ _ | refine blk_drew ?_ | refine blk_alloc ?_ _)); refine blk_far ?_ NB106_118.out _; (with_reducible repeat (first | refine blk_drewN ?_ _ | refine blk_drew ?_ | refine blk_alloc ?_ _)); refine blk_far ?_ NB106_118.out _; (with_reducible repeat (first | refine blk_drewN ?_ _ | refine blk_drew ?_ | refine blk_alloc ?_ _)); exact BK106.out) hb); have n6_ := Aside0.mk (blk_below (g := gb118) (o := .cells #[.slice Ao31 t113.length co31, .int .i64 t116] 30 (0, 0)) (by (with_reducible repeat (first | refine blk_drewN ?_ _ | refine blk_drew ?_ | refine blk_alloc ?_ _)); refine blk_far ?_ NB118_106.out _; (with_reducible repeat (first | refine blk_drewN ?_ _ | refine blk_drew ?_ | refine blk_alloc ?_ _)); refine blk_far ?_ NB118_106.out _; (with_reducible repeat (first | refine blk_drewN ?_ _ | refine blk_drew ?_ | refine blk_alloc ?_ _)); refine blk_put (cs := #[.slice Ao31 t113.length co31, .int .i64 0]) ?_ 1 _ rfl; (with_reducible repeat (first | refine blk_drewN ?_ _ | refine blk_drew ?_ | refine blk_alloc ?_ _)); refine blk_put (cs := #[.slice none 0 0, .int .i64 0]) ?_ 0 _ rfl; (with_reducible repeat (first | refine blk_drewN ?_ _ | refine blk_drew ?_ | refine blk_alloc ?_ _)); exact BK118.out) hb); have n7_ := Aside0.mk (below_step (qw3f6 HB.out GE105.out GE106.out GE118.out) hb); clear HO_5; clear HO_107000; clear HO115; clear BK105; clear BK106; clear BK118; clear HB; have HO_5 := n0_; have HO_107000 := n1_; have HO115 := n2_; have HO121 := n3_; have BK105 := n4_; have BK106 := n5_; have BK118 := n6_; have HB := n7_; clear n0_ n1_ n2_ n3_ n4_ n5_ n6_ n7_; clear hb ho37))
         repeat (go_quiet (first | (go_at_call 27; (with_reducible refine (laws_at.calls _ _ l0 x8_1 t110 _ ?side1 ?side2 A15.out).mono ?_); (case side1 => repeat (first | exact (Kd.C_below HR0.out HB.out) | (with_reducible refine Kd.C_alloc ?_ _) | (with_reducible refine Kd.C_drewN ?_ _) | (with_reducible refine Kd.C_drew ?_))); (case side2 => exact HC0.out); rintro e w' ⟨rfl, ⟨nd, rfl⟩⟩; (try first | exact ⟨rfl, _, World.drewN_drewN _ _ _⟩ | exact ⟨rfl, _, Eq.trans (World.drewN_drewN _ _ _) (congrArg (World.drewN _) (Nat.add_assoc _ _ _))⟩); have hnb23 := NB106_105.out; have hnc23 := NB105_106.out; have hcz24_0 : wr.cell? ⟨gb106, 0, none⟩ = some (u107000) := (blk_cell BK106.out 0).trans rfl; have hcz24_1 : wr.cell? ⟨gb106, 1, none⟩ = some (.int .i64 x107001_1) := (blk_cell BK106.out 1).trans rfl; have hfz24_0 := blk_frozen BK106.out 0; have hfz24_1 := blk_frozen BK106.out 1; obtain ⟨Ao25, co25, eo25⟩ := Kd.R_slice HO_107000.out; subst eo25) | (go_at_call 22; (with_reducible refine (impl_LockedAt.calls _ _ x107000_1 x107001_1 (wrap64 (x7_1 + (Int.tmod t110 7))) t111 _ ?side1 ?side2 A16.out).mono ?_); (case side1 => repeat (first | exact (Kd.R_reads' HO_107000.out).2.2 | (with_reducible refine Kd.C_alloc ?_ _) | (with_reducible refine Kd.C_drewN ?_ _) | (with_reducible refine Kd.C_drew ?_))); (case side2 => exact (Kd.R_reads' HO_107000.out).2.1); rintro e w26 ⟨rfl, hb⟩; have n0_ := Aside0.mk (Kd.R_below (qrf6 HO_5.out) hb); have n1_ := Aside0.mk (Kd.R_below (qrf6 HO_107000.out) hb); have n2_ := Aside0.mk (blk_below (g := gb105) (o := .cells #[.int .i64 (wrap64 (1 + (Int.tmod t102 4))), .int .i64 (wrap64 (1 + (Int.tmod t103 20))), .int .i64 (wrap64 (1 + (Int.tmod t104 20)))] 40 (0, 0)) (qbf6 BK105.out) hb); have n3_ := Aside0.mk (blk_below (g := gb106) (o := .cells #[.slice Ao25 x107000_1.length co25, .int .i64 x107001_1] 30 (0, 0)) (qbf6 BK106.out) hb); have n4_ := Aside0.mk (below_step (qw2f6 HB.out GE105.out GE106.out) hb); clear HO_5; clear HO_107000; clear BK105; clear BK106; clear HB; have HO_5 := n0_; have HO_107000 := n1_; have BK105 := n2_; have BK106 := n3_; have HB := n4_; clear n0_ n1_ n2_ n3_ n4_; (try clear hb); (try clear hb2); (try clear hk); (try clear hi)) | (go_at_call 27; (with_reducible refine (laws_at.calls _ _ l0 (wrap64 (x8_1 + 1)) t112 _ ?side1 ?side2 A18.out).mono ?_); (case side1 => repeat (first | exact (Kd.C_below HR0.out HB.out) | (with_reducible refine Kd.C_alloc ?_ _) | (with_reducible refine Kd.C_drewN ?_ _) | (with_reducible refine Kd.C_drew ?_))); (case side2 => exact HC0.out); rintro e w' ⟨rfl, ⟨nd, rfl⟩⟩; (try first | exact ⟨rfl, _, World.drewN_drewN _ _ _⟩ | exact ⟨rfl, _, Eq.trans (World.drewN_drewN _ _ _) (congrArg (World.drewN _) (Nat.add_assoc _ _ _))⟩); have hcz27_0 : w26.cell? ⟨gb105, 0, none⟩ = some (.int .i64 (wrap64 (1 + (Int.tmod t102 4)))) := (blk_cell BK105.out 0).trans rfl; have hcz27_1 : w26.cell? ⟨gb105, 1, none⟩ = some (.int .i64 (wrap64 (1 + (Int.tmod t103 20)))) := (blk_cell BK105.out 1).trans rfl; have hcz27_2 : w26.cell? ⟨gb105, 2, none⟩ = some (.int .i64 (wrap64 (1 + (Int.tmod t104 20)))) := (blk_cell BK105.out 2).trans rfl; have hfz27_0 := blk_frozen BK105.out 0; have hfz27_1 := blk_frozen BK105.out 1; have hfz27_2 := blk_frozen BK105.out 2; have hcz28_0 : w26.cell? ⟨gb106, 0, none⟩ = some (.slice Ao25 x107000_1.length co25) := (blk_cell BK106.out 0).trans rfl; have hcz28_1 : w26.cell? ⟨gb106, 1, none⟩ = some (.int .i64 x107001_1) := (blk_cell BK106.out 1).trans rfl; have hfz28_0 := blk_frozen BK106.out 0; have hfz28_1 := blk_frozen BK106.out 1) | (go_at_call 28; (with_reducible refine (impl_LockGood.calls k1 (wrap64 (1 + (Int.tmod t102 4))) (wrap64 (1 + (Int.tmod t103 20))) (wrap64 (1 + (Int.tmod t104 20))) _ _ x107000_1 x107001_1 (wrap64 (x7_1 + (Int.tmod t110 7))) t113 t116 true _ ?side1 ?side2 A20.out).mono ?_); (case side1 => repeat (first | exact (Kd.R_reads' HO_107000.out).2.2 | (with_reducible refine Kd.C_alloc ?_ _) | (with_reducible refine Kd.C_drewN ?_ _) | (with_reducible refine Kd.C_drew ?_))); (case side2 => exact (Kd.R_reads' HO_107000.out).2.1); rintro e w29 ⟨v114, rfl, ho0, hb⟩; have n0_ := Aside0.mk (Kd.R_elder' (qrf6 HO_5.out) (Kd.R_base ho0) hb); have n1_ := Aside0.mk (Kd.R_elder' (qrf6 HO_107000.out) (Kd.R_base ho0) hb); have n2_ := Aside0.mk (Kd.R_lower (Kd.R_new' (Kd.R_new' ho0 (Kd.R_lt (qrf6 HO_5.out))) (Kd.R_lt (qrf6 HO_107000.out))) (below_size (qw2f6 HB.out GE105.out GE106.out))); have n3_ := Aside0.mk (blk_below (g := gb105) (o := .cells #[.int .i64 (wrap64 (1 + (Int.tmod t102 4))), .int .i64 (wrap64 (1 + (Int.tmod t103 20))), .int .i64 (wrap64 (1 + (Int.tmod t104 20)))] 40 (0, 0)) (qbf6 BK105.out) hb); have n4_ := Aside0.mk (blk_below (g := gb106) (o := .cells #[.slice Ao25 x107000_1.length co25, .int .i64 x107001_1] 30 (0, 0)) (qbf6 BK106.out) hb); have n5_ := Aside0.mk (below_step (qw2f6 HB.out GE105.out GE106.out) hb); clear HO_5; clear HO_107000; clear BK105; clear BK106; clear HB; have HO_5 := n0_; have HO_107000 := n1_; have HO115 := n2_; have BK105 := n3_; have BK106 := n4_; have HB := n5_; clear n0_ n1_ n2_ n3_ n4_ n5_; (try clear hb); (try clear hb2); (try clear hk); (try clear hi); (try clear ho0)) | ((with_reducible refine gate_dst (N := 9) rfl ?_); refine box_event ?hg (N := 9) ?hd (cs := #[.slice none 0 0, .int .i64 0]) (t := 30) ?hr ?_; (case hd => rfl); (case hg => rfl); (case hr => first | (go_simp; done) | (go_simp; rfl)); intro gb118 hg w30 hbox hb; have n0_ := Aside0.mk (Kd.R_below (qrf6 HO_5.out) hb); have n1_ := Aside0.mk (Kd.R_below (qrf6 HO_107000.out) hb); have n2_ := Aside0.mk (Kd.R_below (qrf6 HO115.out) hb); have n3_ := Aside0.mk (blk_below (g := gb105) (o := .cells #[.int .i64 (wrap64 (1 + (Int.tmod t102 4))), .int .i64 (wrap64 (1 + (Int.tmod t103 20))), .int .i64 (wrap64 (1 + (Int.tmod t104 20)))] 40 (0, 0)) (qbf6 BK105.out) hb); have n4_ := Aside0.mk (blk_below (g := gb106) (o := .cells #[.slice Ao25 x107000_1.length co25, .int .i64 x107001_1] 30 (0, 0)) (qbf6 BK106.out) hb); have n5_ := Aside0.mk (below_step (qw2f6 HB.out GE105.out GE106.out) hb); have n6_ := Aside0.mk (hbox); have n7_ := Aside0.mk ((by rw [hg]; exact (below_size (qw2f6 HB.out GE105.out GE106.out)) : w.heap.size ≤ gb118)); have n8_ := Aside0.mk ((by rw [hg]; exact (below_size (qw2f6 HB.out GE105.out GE106.out)) : w.heap.size ≤ gb118)); have n9_ := Aside0.mk ((by rw [hg]; exact Nat.ne_of_lt (blk_lt (g := gb105) (o := .cells #[.int .i64 (wrap64 (1 + (Int.tmod t102 4))), .int .i64 (wrap64 (1 + (Int.tmod t103 20))), .int .i64 (wrap64 (1 + (Int.tmod t104 20)))] 40 (0, 0)) (qbf6 BK105.out)) : gb105 ≠ gb118)); have n10_ := Aside0.mk ((by rw [hg]; exact Nat.ne_of_gt (blk_lt (g := gb105) (o := .cells #[.int .i64 (wrap64 (1 + (Int.tmod t102 4))), .int .i64 (wrap64 (1 + (Int.tmod t103 20))), .int .i64 (wrap64 (1 + (Int.tmod t104 20)))] 40 (0, 0)) (qbf6 BK105.out)) : gb118 ≠ gb105)); have n11_ := Aside0.mk ((by rw [hg]; exact Nat.ne_of_lt (blk_lt (g := gb106) (o := .cells #[.slice Ao25 x107000_1.length co25, .int .i64 x107001_1] 30 (0, 0)) (qbf6 BK106.out)) : gb106 ≠ gb118)); have n12_ := Aside0.mk ((by rw [hg]; exact Nat.ne_of_gt (blk_lt (g := gb106) (o := .cells #[.slice Ao25 x107000_1.length co25, .int .i64 x107001_1] 30 (0, 0)) (qbf6 BK106.out)) : gb118 ≠ gb106)); clear HO_5; clear HO_107000; clear HO115; clear BK105; clear BK106; clear HB; have HO_5 := n0_; have HO_107000 := n1_; have HO115 := n2_; have BK105 := n3_; have BK106 := n4_; have HB := n5_; have BK118 := n6_; have GW118 := n7_; have GE118 := n8_; have NB105_118 := n9_; have NB118_105 := n10_; have NB106_118 := n11_; have NB118_106 := n12_; clear n0_ n1_ n2_ n3_ n4_ n5_ n6_ n7_ n8_ n9_ n10_ n11_ n12_; clear hb hbox hg; obtain ⟨Ao31, co31, eo31⟩ := Kd.R_slice HO115.out; subst eo31; have hnb32 := NB118_105.out; have hnc32 := NB105_118.out; have hnb33 := NB118_106.out; have hnc33 := NB106_118.out; have hcz34_0 : w30.cell? ⟨gb118, 0, none⟩ = some (.slice none 0 0) := (blk_cell BK118.out 0).trans rfl; have hcz34_1 : w30.cell? ⟨gb118, 1, none⟩ = some (.int .i64 0) := (blk_cell BK118.out 1).trans rfl; have hfz34_0 := blk_frozen BK118.out 0; have hfz34_1 := blk_frozen BK118.out 1; have hcz35_0 : w30.cell? ⟨gb106, 0, none⟩ = some (.slice Ao25 x107000_1.length co25) := (blk_cell BK106.out 0).trans rfl; have hcz35_1 : w30.cell? ⟨gb106, 1, none⟩ = some (.int .i64 x107001_1) := (blk_cell BK106.out 1).trans rfl; have hfz35_0 := blk_frozen BK106.out 0; have hfz35_1 := blk_frozen BK106.out 1) | ((with_reducible refine gate_dst (N := 69) rfl ?_); refine Kd.R_lit (Kd.int .i64) _ 3 ?hg (N := 69) ?hd (xs := ([] : List Int)) (inner := []) (ok := fun _ => True) (okp := fun _ => True) ?hr ?hp (fun _ hk => hk) trivial (Below.refl _ _) (Nat.le_refl _) (by simp) ?_; (case hd => rfl); (case hg => rfl); (case hr => first | (go_simp; done) | (go_simp; rfl)); (case hp => exact (Reps.none _ _)); intro v120 w36 ho37 hb hg_ hnew_; clear hg_ hnew_; (first | rw [← Ny119.out] at ho37 | (simp only [Int.reduceToNat] at ho37; rw [← Ny119.out] at ho37)); have n0_ := Aside0.mk (Kd.R_elder' (by (with_reducible repeat (first | apply Kd.R_alloc | apply Kd.R_drewN | apply Kd.R_drew)); exact (Kd.R_mono (Kd.R_mono (Kd.R_far (p := ⟨gb106, 1, none⟩) (Kd.R_far (p := ⟨gb106, 0, none⟩) (Kd.R_far (p := ⟨gb118, 1, none⟩) (Kd.R_far (p := ⟨gb118, 0, none⟩) (Kd.R_types (Kd.R_types HO_5.out BK118.out (by decide)) BK106.out (by decide)) (fun _ hk => hk.1.2) (.slice Ao31 t113.length co31)) (fun _ hk => hk.1.2) (.int .i64 t116)) (fun _ hk => hk.2) (.slice Ao31 t113.length co31)) (fun _ hk => hk.2) (.int .i64 t116)) (fun _ h_ => h_.1)) (fun _ h_ => h_.1))) (Kd.R_base ho37) hb); have n1_ := Aside0.mk (Kd.R_elder' (by (with_reducible repeat (first | apply Kd.R_alloc | apply Kd.R_drewN | apply Kd.R_drew)); exact (Kd.R_mono (Kd.R_mono (Kd.R_far (p := ⟨gb106, 1, none⟩) (Kd.R_far (p := ⟨gb106, 0, none⟩) (Kd.R_far (p := ⟨gb118, 1, none⟩) (Kd.R_far (p := ⟨gb118, 0, none⟩) (Kd.R_types (Kd.R_types HO_107000.out BK118.out (by decide)) BK106.out (by decide)) (fun _ hk => hk.1.2) (.slice Ao31 t113.length co31)) (fun _ hk => hk.1.2) (.int .i64 t116)) (fun _ hk => hk.2) (.slice Ao31 t113.length co31)) (fun _ hk => hk.2) (.int .i64 t116)) (fun _ h_ => h_.1)) (fun _ h_ => h_.1))) (Kd.R_base ho37) hb); have n2_ := Aside0.mk (Kd.R_elder' (by (with_reducible repeat (first | apply Kd.R_alloc | apply Kd.R_drewN | apply Kd.R_drew)); exact (Kd.R_mono (Kd.R_mono (Kd.R_far (p := ⟨gb106, 1, none⟩) (Kd.R_far (p := ⟨gb106, 0, none⟩) (Kd.R_far (p := ⟨gb118, 1, none⟩) (Kd.R_far (p := ⟨gb118, 0, none⟩) (Kd.R_types (Kd.R_types HO115.out BK118.out (by decide)) BK106.out (by decide)) (fun _ hk => hk.1.2) (.slice Ao31 t113.length co31)) (fun _ hk => hk.1.2) (.int .i64 t116)) (fun _ hk => hk.2) (.slice Ao31 t113.length co31)) (fun _ hk => hk.2) (.int .i64 t116)) (fun _ h_ => h_.1)) (fun _ h_ => h_.1))) (Kd.R_base ho37) hb); have n3_ := Aside0.mk (Kd.R_lower (Kd.R_new' (Kd.R_new' (Kd.R_new' ho37 (Kd.R_lt (by (with_reducible repeat (first | apply Kd.R_alloc | apply Kd.R_drewN | apply Kd.R_drew)); exact (Kd.R_mono (Kd.R_mono (Kd.R_far (p := ⟨gb106, 1, none⟩) (Kd.R_far (p := ⟨gb106, 0, none⟩) (Kd.R_far (p := ⟨gb118, 1, none⟩) (Kd.R_far (p := ⟨gb118, 0, none⟩) (Kd.R_types (Kd.R_types HO_5.out BK118.out (by decide)) BK106.out (by decide)) (fun _ hk => hk.1.2) (.slice Ao31 t113.length co31)) (fun _ hk => hk.1.2) (.int .i64 t116)) (fun _ hk => hk.2) (.slice Ao31 t113.length co31)) (fun _ hk => hk.2) (.int .i64 t116)) (fun _ h_ => h_.1)) (fun _ h_ => h_.1))))) (Kd.R_lt (by (with_reducible repeat (first | apply Kd.R_alloc | apply Kd.R_drewN | apply Kd.R_drew)); exact (Kd.R_mono (Kd.R_mono (Kd.R_far (p := ⟨gb106, 1, none⟩) (Kd.R_far (p := ⟨gb106, 0, none⟩) (Kd.R_far (p := ⟨gb118, 1, none⟩) (Kd.R_far (p := ⟨gb118, 0, none⟩) (Kd.R_types (Kd.R_types HO_107000.out BK118.out (by decide)) BK106.out (by decide)) (fun _ hk => hk.1.2) (.slice Ao31 t113.length co31)) (fun _ hk => hk.1.2) (.int .i64 t116)) (fun _ hk => hk.2) (.slice Ao31 t113.length co31)) (fun _ hk => hk.2) (.int .i64 t116)) (fun _ h_ => h_.1)) (fun _ h_ => h_.1))))) (Kd.R_lt (by (with_reducible repeat (first | apply Kd.R_alloc | apply Kd.R_drewN | apply Kd.R_drew)); exact (Kd.R_mono (Kd.R_mono (Kd.R_far (p := ⟨gb106, 1, none⟩) (Kd.R_far (p := ⟨gb106, 0, none⟩) (Kd.R_far (p := ⟨gb118, 1, none⟩) (Kd.R_far (p := ⟨gb118, 0, none⟩) (Kd.R_types (Kd.R_types HO115.out BK118.out (by decide)) BK106.out (by decide)) (fun _ hk => hk.1.2) (.slice Ao31 t113.length co31)) (fun _ hk => hk.1.2) (.int .i64 t116)) (fun _ hk => hk.2) (.slice Ao31 t113.length co31)) (fun _ hk => hk.2) (.int .i64 t116)) (fun _ h_ => h_.1)) (fun _ h_ => h_.1))))) (below_size (qw3f6 HB.out GE105.out GE106.out GE118.out))); have n4_ := Aside0.mk (blk_below (g := gb105) (o := .cells #[.int .i64 (wrap64 (1 + (Int.tmod t102 4))), .int .i64 (wrap64 (1 + (Int.tmod t103 20))), .int .i64 (wrap64 (1 + (Int.tmod t104 20)))] 40 (0, 0)) (by (with_reducible repeat (first | refine blk_drewN ?_ _ | refine blk_drew ?_ | refine blk_alloc ?_ _)); refine blk_far ?_ NB105_106.out _; (with_reducible repeat (first | refine blk_drewN ?_ _ | refine blk_drew ?_ | refine blk_alloc ?_ _)); refine blk_far ?_ NB105_106.out _; (with_reducible repeat (first | refine blk_drewN ?_ _ | refine blk_drew ?_ | refine blk_alloc ?_ _)); refine blk_far ?_ NB105_118.out _; (with_reducible repeat (first | refine blk_drewN ?_ _ | refine blk_drew ?_ | refine blk_alloc ?_ _)); refine blk_far ?_ NB105_118.out _; (with_reducible repeat (first | refine blk_drewN ?_ _ | refine blk_drew ?_ | refine blk_alloc ?_ _)); exact BK105.out) hb); have n5_ := Aside0.mk (blk_below (g := gb106) (o := .cells #[.slice Ao31 t113.length co31, .int .i64 t116] 30 (0, 0)) (by (with_reducible repeat (first | refine blk_drewN ?_ _ | refine blk_drew ?_ | refine blk_alloc ?_ _)); refine blk_put (cs := #[.slice Ao31 t113.length co31, .int .i64 x107001_1]) ?_ 1 _ rfl; (with_reducible repeat (first | refine blk_drewN ?_ _ | refine blk_drew ?_ | refine blk_alloc ?_ _)); refine blk_put (cs := #[.slice Ao25 x107000_1.length co25, .int .i64 x107001_1]) ?_ 0 _ rfl; (with_reducible repeat (first | refine blk_drewN ?_ _ | refine blk_drew ?_ | refine blk_alloc ?_ _)); refine blk_far ?_ NB106_118.out _; (with_reducible repeat (first | refine blk_drewN ?_ _ | refine blk_drew ?_ | refine blk_alloc ?_ _)); refine blk_far ?_ NB106_118.out _; (with_reducible repeat (first | refine blk_drewN ?_ _ | refine blk_drew ?_ | refine blk_alloc ?_ _)); exact BK106.out) hb); have n6_ := Aside0.mk (blk_below (g := gb118) (o := .cells #[.slice Ao31 t113.length co31, .int .i64 t116] 30 (0, 0)) (by (with_reducible repeat (first | refine blk_drewN ?_ _ | refine blk_drew ?_ | refine blk_alloc ?_ _)); refine blk_far ?_ NB118_106.out _; (with_reducible repeat (first | refine blk_drewN ?_ _ | refine blk_drew ?_ | refine blk_alloc ?_ _)); refine blk_far ?_ NB118_106.out _; (with_reducible repeat (first | refine blk_drewN ?_ _ | refine blk_drew ?_ | refine blk_alloc ?_ _)); refine blk_put (cs := #[.slice Ao31 t113.length co31, .int .i64 0]) ?_ 1 _ rfl; (with_reducible repeat (first | refine blk_drewN ?_ _ | refine blk_drew ?_ | refine blk_alloc ?_ _)); refine blk_put (cs := #[.slice none 0 0, .int .i64 0]) ?_ 0 _ rfl; (with_reducible repeat (first | refine blk_drewN ?_ _ | refine blk_drew ?_ | refine blk_alloc ?_ _)); exact BK118.out) hb); have n7_ := Aside0.mk (below_step (qw3f6 HB.out GE105.out GE106.out GE118.out) hb); clear HO_5; clear HO_107000; clear HO115; clear BK105; clear BK106; clear BK118; clear HB; have HO_5 := n0_; have HO_107000 := n1_; have HO115 := n2_; have HO121 := n3_; have BK105 := n4_; have BK106 := n5_; have BK118 := n6_; have HB := n7_; clear n0_ n1_ n2_ n3_ n4_ n5_ n6_ n7_; clear hb ho37)); try go_wp2_with (first | (go_at_call 27; (with_reducible refine (laws_at.calls _ _ l0 x8_1 t110 _ ?side1 ?side2 A15.out).mono ?_); (case side1 => repeat (first | exact (Kd.C_below HR0.out HB.out) | (with_reducible refine Kd.C_alloc ?_ _) | (with_reducible refine Kd.C_drewN ?_ _) | (with_reducible refine Kd.C_drew ?_))); (case side2 => exact HC0.out); rintro e w' ⟨rfl, ⟨nd, rfl⟩⟩; (try first | exact ⟨rfl, _, World.drewN_drewN _ _ _⟩ | exact ⟨rfl, _, Eq.trans (World.drewN_drewN _ _ _) (congrArg (World.drewN _) (Nat.add_assoc _ _ _))⟩); have hnb23 := NB106_105.out; have hnc23 := NB105_106.out; have hcz24_0 : wr.cell? ⟨gb106, 0, none⟩ = some (u107000) := (blk_cell BK106.out 0).trans rfl; have hcz24_1 : wr.cell? ⟨gb106, 1, none⟩ = some (.int .i64 x107001_1) := (blk_cell BK106.out 1).trans rfl; have hfz24_0 := blk_frozen BK106.out 0; have hfz24_1 := blk_frozen BK106.out 1; obtain ⟨Ao25, co25, eo25⟩ := Kd.R_slice HO_107000.out; subst eo25) | (go_at_call 22; (with_reducible refine (impl_LockedAt.calls _ _ x107000_1 x107001_1 (wrap64 (x7_1 + (Int.tmod t110 7))) t111 _ ?side1 ?side2 A16.out).mono ?_); (case side1 => repeat (first | exact (Kd.R_reads' HO_107000.out).2.2 | (with_reducible refine Kd.C_alloc ?_ _) | (with_reducible refine Kd.C_drewN ?_ _) | (with_reducible refine Kd.C_drew ?_))); (case side2 => exact (Kd.R_reads' HO_107000.out).2.1); rintro e w26 ⟨rfl, hb⟩; have n0_ := Aside0.mk (Kd.R_below (qrf6 HO_5.out) hb); have n1_ := Aside0.mk (Kd.R_below (qrf6 HO_107000.out) hb); have n2_ := Aside0.mk (blk_below (g := gb105) (o := .cells #[.int .i64 (wrap64 (1 + (Int.tmod t102 4))), .int .i64 (wrap64 (1 + (Int.tmod t103 20))), .int .i64 (wrap64 (1 + (Int.tmod t104 20)))] 40 (0, 0)) (qbf6 BK105.out) hb); have n3_ := Aside0.mk (blk_below (g := gb106) (o := .cells #[.slice Ao25 x107000_1.length co25, .int .i64 x107001_1] 30 (0, 0)) (qbf6 BK106.out) hb); have n4_ := Aside0.mk (below_step (qw2f6 HB.out GE105.out GE106.out) hb); clear HO_5; clear HO_107000; clear BK105; clear BK106; clear HB; have HO_5 := n0_; have HO_107000 := n1_; have BK105 := n2_; have BK106 := n3_; have HB := n4_; clear n0_ n1_ n2_ n3_ n4_; (try clear hb); (try clear hb2); (try clear hk); (try clear hi)) | (go_at_call 27; (with_reducible refine (laws_at.calls _ _ l0 (wrap64 (x8_1 + 1)) t112 _ ?side1 ?side2 A18.out).mono ?_); (case side1 => repeat (first | exact (Kd.C_below HR0.out HB.out) | (with_reducible refine Kd.C_alloc ?_ _) | (with_reducible refine Kd.C_drewN ?_ _) | (with_reducible refine Kd.C_drew ?_))); (case side2 => exact HC0.out); rintro e w' ⟨rfl, ⟨nd, rfl⟩⟩; (try first | exact ⟨rfl, _, World.drewN_drewN _ _ _⟩ | exact ⟨rfl, _, Eq.trans (World.drewN_drewN _ _ _) (congrArg (World.drewN _) (Nat.add_assoc _ _ _))⟩); have hcz27_0 : w26.cell? ⟨gb105, 0, none⟩ = some (.int .i64 (wrap64 (1 + (Int.tmod t102 4)))) := (blk_cell BK105.out 0).trans rfl; have hcz27_1 : w26.cell? ⟨gb105, 1, none⟩ = some (.int .i64 (wrap64 (1 + (Int.tmod t103 20)))) := (blk_cell BK105.out 1).trans rfl; have hcz27_2 : w26.cell? ⟨gb105, 2, none⟩ = some (.int .i64 (wrap64 (1 + (Int.tmod t104 20)))) := (blk_cell BK105.out 2).trans rfl; have hfz27_0 := blk_frozen BK105.out 0; have hfz27_1 := blk_frozen BK105.out 1; have hfz27_2 := blk_frozen BK105.out 2; have hcz28_0 : w26.cell? ⟨gb106, 0, none⟩ = some (.slice Ao25 x107000_1.length co25) := (blk_cell BK106.out 0).trans rfl; have hcz28_1 : w26.cell? ⟨gb106, 1, none⟩ = some (.int .i64 x107001_1) := (blk_cell BK106.out 1).trans rfl; have hfz28_0 := blk_frozen BK106.out 0; have hfz28_1 := blk_frozen BK106.out 1) | (go_at_call 28; (with_reducible refine (impl_LockGood.calls k1 (wrap64 (1 + (Int.tmod t102 4))) (wrap64 (1 + (Int.tmod t103 20))) (wrap64 (1 + (Int.tmod t104 20))) _ _ x107000_1 x107001_1 (wrap64 (x7_1 + (Int.tmod t110 7))) t113 t116 true _ ?side1 ?side2 A20.out).mono ?_); (case side1 => repeat (first | exact (Kd.R_reads' HO_107000.out).2.2 | (with_reducible refine Kd.C_alloc ?_ _) | (with_reducible refine Kd.C_drewN ?_ _) | (with_reducible refine Kd.C_drew ?_))); (case side2 => exact (Kd.R_reads' HO_107000.out).2.1); rintro e w29 ⟨v114, rfl, ho0, hb⟩; have n0_ := Aside0.mk (Kd.R_elder' (qrf6 HO_5.out) (Kd.R_base ho0) hb); have n1_ := Aside0.mk (Kd.R_elder' (qrf6 HO_107000.out) (Kd.R_base ho0) hb); have n2_ := Aside0.mk (Kd.R_lower (Kd.R_new' (Kd.R_new' ho0 (Kd.R_lt (qrf6 HO_5.out))) (Kd.R_lt (qrf6 HO_107000.out))) (below_size (qw2f6 HB.out GE105.out GE106.out))); have n3_ := Aside0.mk (blk_below (g := gb105) (o := .cells #[.int .i64 (wrap64 (1 + (Int.tmod t102 4))), .int .i64 (wrap64 (1 + (Int.tmod t103 20))), .int .i64 (wrap64 (1 + (Int.tmod t104 20)))] 40 (0, 0)) (qbf6 BK105.out) hb); have n4_ := Aside0.mk (blk_below (g := gb106) (o := .cells #[.slice Ao25 x107000_1.length co25, .int .i64 x107001_1] 30 (0, 0)) (qbf6 BK106.out) hb); have n5_ := Aside0.mk (below_step (qw2f6 HB.out GE105.out GE106.out) hb); clear HO_5; clear HO_107000; clear BK105; clear BK106; clear HB; have HO_5 := n0_; have HO_107000 := n1_; have HO115 := n2_; have BK105 := n3_; have BK106 := n4_; have HB := n5_; clear n0_ n1_ n2_ n3_ n4_ n5_; (try clear hb); (try clear hb2); (try clear hk); (try clear hi); (try clear ho0)) | ((with_reducible refine gate_dst (N := 9) rfl ?_); refine box_event ?hg (N := 9) ?hd (cs := #[.slice none 0 0, .int .i64 0]) (t := 30) ?hr ?_; (case hd => rfl); (case hg => rfl); (case hr => first | (go_simp; done) | (go_simp; rfl)); intro gb118 hg w30 hbox hb; have n0_ := Aside0.mk (Kd.R_below (qrf6 HO_5.out) hb); have n1_ := Aside0.mk (Kd.R_below (qrf6 HO_107000.out) hb); have n2_ := Aside0.mk (Kd.R_below (qrf6 HO115.out) hb); have n3_ := Aside0.mk (blk_below (g := gb105) (o := .cells #[.int .i64 (wrap64 (1 + (Int.tmod t102 4))), .int .i64 (wrap64 (1 + (Int.tmod t103 20))), .int .i64 (wrap64 (1 + (Int.tmod t104 20)))] 40 (0, 0)) (qbf6 BK105.out) hb); have n4_ := Aside0.mk (blk_below (g := gb106) (o := .cells #[.slice Ao25 x107000_1.length co25, .int .i64 x107001_1] 30 (0, 0)) (qbf6 BK106.out) hb); have n5_ := Aside0.mk (below_step (qw2f6 HB.out GE105.out GE106.out) hb); have n6_ := Aside0.mk (hbox); have n7_ := Aside0.mk ((by rw [hg]; exact (below_size (qw2f6 HB.out GE105.out GE106.out)) : w.heap.size ≤ gb118)); have n8_ := Aside0.mk ((by rw [hg]; exact (below_size (qw2f6 HB.out GE105.out GE106.out)) : w.heap.size ≤ gb118)); have n9_ := Aside0.mk ((by rw [hg]; exact Nat.ne_of_lt (blk_lt (g := gb105) (o := .cells #[.int .i64 (wrap64 (1 + (Int.tmod t102 4))), .int .i64 (wrap64 (1 + (Int.tmod t103 20))), .int .i64 (wrap64 (1 + (Int.tmod t104 20)))] 40 (0, 0)) (qbf6 BK105.out)) : gb105 ≠ gb118)); have n10_ := Aside0.mk ((by rw [hg]; exact Nat.ne_of_gt (blk_lt (g := gb105) (o := .cells #[.int .i64 (wrap64 (1 + (Int.tmod t102 4))), .int .i64 (wrap64 (1 + (Int.tmod t103 20))), .int .i64 (wrap64 (1 + (Int.tmod t104 20)))] 40 (0, 0)) (qbf6 BK105.out)) : gb118 ≠ gb105)); have n11_ := Aside0.mk ((by rw [hg]; exact Nat.ne_of_lt (blk_lt (g := gb106) (o := .cells #[.slice Ao25 x107000_1.length co25, .int .i64 x107001_1] 30 (0, 0)) (qbf6 BK106.out)) : gb106 ≠ gb118)); have n12_ := Aside0.mk ((by rw [hg]; exact Nat.ne_of_gt (blk_lt (g := gb106) (o := .cells #[.slice Ao25 x107000_1.length co25, .int .i64 x107001_1] 30 (0, 0)) (qbf6 BK106.out)) : gb118 ≠ gb106)); clear HO_5; clear HO_107000; clear HO115; clear BK105; clear BK106; clear HB; have HO_5 := n0_; have HO_107000 := n1_; have HO115 := n2_; have BK105 := n3_; have BK106 := n4_; have HB := n5_; have BK118 := n6_; have GW118 := n7_; have GE118 := n8_; have NB105_118 := n9_; have NB118_105 := n10_; have NB106_118 := n11_; have NB118_106 := n12_; clear n0_ n1_ n2_ n3_ n4_ n5_ n6_ n7_ n8_ n9_ n10_ n11_ n12_; clear hb hbox hg; obtain ⟨Ao31, co31, eo31⟩ := Kd.R_slice HO115.out; subst eo31; have hnb32 := NB118_105.out; have hnc32 := NB105_118.out; have hnb33 := NB118_106.out; have hnc33 := NB106_118.out; have hcz34_0 : w30.cell? ⟨gb118, 0, none⟩ = some (.slice none 0 0) := (blk_cell BK118.out 0).trans rfl; have hcz34_1 : w30.cell? ⟨gb118, 1, none⟩ = some (.int .i64 0) := (blk_cell BK118.out 1).trans rfl; have hfz34_0 := blk_frozen BK118.out 0; have hfz34_1 := blk_frozen BK118.out 1; have hcz35_0 : w30.cell? ⟨gb106, 0, none⟩ = some (.slice Ao25 x107000_1.length co25) := (blk_cell BK106.out 0).trans rfl; have hcz35_1 : w30.cell? ⟨gb106, 1, none⟩ = some (.int .i64 x107001_1) := (blk_cell BK106.out 1).trans rfl; have hfz35_0 := blk_frozen BK106.out 0; have hfz35_1 := blk_frozen BK106.out 1) | ((with_reducible refine gate_dst (N := 69) rfl ?_); refine Kd.R_lit (Kd.int .i64) _ 3 ?hg (N := 69) ?hd (xs := ([] : List Int)) (inner := []) (ok := fun _ => True) (okp := fun _ => True) ?hr ?hp (fun _ hk => hk) trivial (Below.refl _ _) (Nat.le_refl _) (by simp) ?_; (case hd => rfl); (case hg => rfl); (case hr => first | (go_simp; done) | (go_simp; rfl)); (case hp => exact (Reps.none _ _)); intro v120 w36 ho37 hb hg_ hnew_; clear hg_ hnew_; (first | rw [← Ny119.out] at ho37 | (simp only [Int.reduceToNat] at ho37; rw [← Ny119.out] at ho37)); have n0_ := Aside0.mk (Kd.R_elder' (by (with_reducible repeat (first | apply Kd.R_alloc | apply Kd.R_drewN | apply Kd.R_drew)); exact (Kd.R_mono (Kd.R_mono (Kd.R_far (p := ⟨gb106, 1, none⟩) (Kd.R_far (p := ⟨gb106, 0, none⟩) (Kd.R_far (p := ⟨gb118, 1, none⟩) (Kd.R_far (p := ⟨gb118, 0, none⟩) (Kd.R_types (Kd.R_types HO_5.out BK118.out (by decide)) BK106.out (by decide)) (fun _ hk => hk.1.2) (.slice Ao31 t113.length co31)) (fun _ hk => hk.1.2) (.int .i64 t116)) (fun _ hk => hk.2) (.slice Ao31 t113.length co31)) (fun _ hk => hk.2) (.int .i64 t116)) (fun _ h_ => h_.1)) (fun _ h_ => h_.1))) (Kd.R_base ho37) hb); have n1_ := Aside0.mk (Kd.R_elder' (by (with_reducible repeat (first | apply Kd.R_alloc | apply Kd.R_drewN | apply Kd.R_drew)); exact (Kd.R_mono (Kd.R_mono (Kd.R_far (p := ⟨gb106, 1, none⟩) (Kd.R_far (p := ⟨gb106, 0, none⟩) (Kd.R_far (p := ⟨gb118, 1, none⟩) (Kd.R_far (p := ⟨gb118, 0, none⟩) (Kd.R_types (Kd.R_types HO_107000.out BK118.out (by decide)) BK106.out (by decide)) (fun _ hk => hk.1.2) (.slice Ao31 t113.length co31)) (fun _ hk => hk.1.2) (.int .i64 t116)) (fun _ hk => hk.2) (.slice Ao31 t113.length co31)) (fun _ hk => hk.2) (.int .i64 t116)) (fun _ h_ => h_.1)) (fun _ h_ => h_.1))) (Kd.R_base ho37) hb); have n2_ := Aside0.mk (Kd.R_elder' (by (with_reducible repeat (first | apply Kd.R_alloc | apply Kd.R_drewN | apply Kd.R_drew)); exact (Kd.R_mono (Kd.R_mono (Kd.R_far (p := ⟨gb106, 1, none⟩) (Kd.R_far (p := ⟨gb106, 0, none⟩) (Kd.R_far (p := ⟨gb118, 1, none⟩) (Kd.R_far (p := ⟨gb118, 0, none⟩) (Kd.R_types (Kd.R_types HO115.out BK118.out (by decide)) BK106.out (by decide)) (fun _ hk => hk.1.2) (.slice Ao31 t113.length co31)) (fun _ hk => hk.1.2) (.int .i64 t116)) (fun _ hk => hk.2) (.slice Ao31 t113.length co31)) (fun _ hk => hk.2) (.int .i64 t116)) (fun _ h_ => h_.1)) (fun _ h_ => h_.1))) (Kd.R_base ho37) hb); have n3_ := Aside0.mk (Kd.R_lower (Kd.R_new' (Kd.R_new' (Kd.R_new' ho37 (Kd.R_lt (by (with_reducible repeat (first | apply Kd.R_alloc | apply Kd.R_drewN | apply Kd.R_drew)); exact (Kd.R_mono (Kd.R_mono (Kd.R_far (p := ⟨gb106, 1, none⟩) (Kd.R_far (p := ⟨gb106, 0, none⟩) (Kd.R_far (p := ⟨gb118, 1, none⟩) (Kd.R_far (p := ⟨gb118, 0, none⟩) (Kd.R_types (Kd.R_types HO_5.out BK118.out (by decide)) BK106.out (by decide)) (fun _ hk => hk.1.2) (.slice Ao31 t113.length co31)) (fun _ hk => hk.1.2) (.int .i64 t116)) (fun _ hk => hk.2) (.slice Ao31 t113.length co31)) (fun _ hk => hk.2) (.int .i64 t116)) (fun _ h_ => h_.1)) (fun _ h_ => h_.1))))) (Kd.R_lt (by (with_reducible repeat (first | apply Kd.R_alloc | apply Kd.R_drewN | apply Kd.R_drew)); exact (Kd.R_mono (Kd.R_mono (Kd.R_far (p := ⟨gb106, 1, none⟩) (Kd.R_far (p := ⟨gb106, 0, none⟩) (Kd.R_far (p := ⟨gb118, 1, none⟩) (Kd.R_far (p := ⟨gb118, 0, none⟩) (Kd.R_types (Kd.R_types HO_107000.out BK118.out (by decide)) BK106.out (by decide)) (fun _ hk => hk.1.2) (.slice Ao31 t113.length co31)) (fun _ hk => hk.1.2) (.int .i64 t116)) (fun _ hk => hk.2) (.slice Ao31 t113.length co31)) (fun _ hk => hk.2) (.int .i64 t116)) (fun _ h_ => h_.1)) (fun _ h_ => h_.1))))) (Kd.R_lt (by (with_reducible repeat (first | apply Kd.R_alloc | apply Kd.R_drewN | apply Kd.R_drew)); exact (Kd.R_mono (Kd.R_mono (Kd.R_far (p := ⟨gb106, 1, none⟩) (Kd.R_far (p := ⟨gb106, 0, none⟩) (Kd.R_far (p := ⟨gb118, 1, none⟩) (Kd.R_far (p := ⟨gb118, 0, none⟩) (Kd.R_types (Kd.R_types HO115.out BK118.out (by decide)) BK106.out (by decide)) (fun _ hk => hk.1.2) (.slice Ao31 t113.length co31)) (fun _ hk => hk.1.2) (.int .i64 t116)) (fun _ hk => hk.2) (.slice Ao31 t113.length co31)) (fun _ hk => hk.2) (.int .i64 t116)) (fun _ h_ => h_.1)) (fun _ h_ => h_.1))))) (below_size (qw3f6 HB.out GE105.out GE106.out GE118.out))); have n4_ := Aside0.mk (blk_below (g := gb105) (o := .cells #[.int .i64 (wrap64 (1 + (Int.tmod t102 4))), .int .i64 (wrap64 (1 + (Int.tmod t103 20))), .int .i64 (wrap64 (1 + (Int.tmod t104 20)))] 40 (0, 0)) (by (with_reducible repeat (first | refine blk_drewN ?_ _ | refine blk_drew ?_ | refine blk_alloc ?_ _)); refine blk_far ?_ NB105_106.out _; (with_reducible repeat (first | refine blk_drewN ?_ _ | refine blk_drew ?_ | refine blk_alloc ?_ _)); refine blk_far ?_ NB105_106.out _; (with_reducible repeat (first | refine blk_drewN ?_ _ | refine blk_drew ?_ | refine blk_alloc ?_ _)); refine blk_far ?_ NB105_118.out _; (with_reducible repeat (first | refine blk_drewN ?_ _ | refine blk_drew ?_ | refine blk_alloc ?_ _)); refine blk_far ?_ NB105_118.out _; (with_reducible repeat (first | refine blk_drewN ?_ _ | refine blk_drew ?_ | refine blk_alloc ?_ _)); exact BK105.out) hb); have n5_ := Aside0.mk (blk_below (g := gb106) (o := .cells #[.slice Ao31 t113.length co31, .int .i64 t116] 30 (0, 0)) (by (with_reducible repeat (first | refine blk_drewN ?_ _ | refine blk_drew ?_ | refine blk_alloc ?_ _)); refine blk_put (cs := #[.slice Ao31 t113.length co31, .int .i64 x107001_1]) ?_ 1 _ rfl; (with_reducible repeat (first | refine blk_drewN ?_ _ | refine blk_drew ?_ | refine blk_alloc ?_ _)); refine blk_put (cs := #[.slice Ao25 x107000_1.length co25, .int .i64 x107001_1]) ?_ 0 _ rfl; (with_reducible repeat (first | refine blk_drewN ?_ _ | refine blk_drew ?_ | refine blk_alloc ?_ _)); refine blk_far ?_ NB106_118.out _; (with_reducible repeat (first | refine blk_drewN ?_ _ | refine blk_drew ?_ | refine blk_alloc ?_ _)); refine blk_far ?_ NB106_118.out _; (with_reducible repeat (first | refine blk_drewN ?_ _ | refine blk_drew ?_ | refine blk_alloc ?_ _)); exact BK106.out) hb); have n6_ := Aside0.mk (blk_below (g := gb118) (o := .cells #[.slice Ao31 t113.length co31, .int .i64 t116] 30 (0, 0)) (by (with_reducible repeat (first | refine blk_drewN ?_ _ | refine blk_drew ?_ | refine blk_alloc ?_ _)); refine blk_far ?_ NB118_106.out _; (with_reducible repeat (first | refine blk_drewN ?_ _ | refine blk_drew ?_ | refine blk_alloc ?_ _)); refine blk_far ?_ NB118_106.out _; (with_reducible repeat (first | refine blk_drewN ?_ _ | refine blk_drew ?_ | refine blk_alloc ?_ _)); refine blk_put (cs := #[.slice Ao31 t113.length co31, .int .i64 0]) ?_ 1 _ rfl; (with_reducible repeat (first | refine blk_drewN ?_ _ | refine blk_drew ?_ | refine blk_alloc ?_ _)); refine blk_put (cs := #[.slice none 0 0, .int .i64 0]) ?_ 0 _ rfl; (with_reducible repeat (first | refine blk_drewN ?_ _ | refine blk_drew ?_ | refine blk_alloc ?_ _)); exact BK118.out) hb); have n7_ := Aside0.mk (below_step (qw3f6 HB.out GE105.out GE106.out GE118.out) hb); clear HO_5; clear HO_107000; clear HO115; clear BK105; clear BK106; clear BK118; clear HB; have HO_5 := n0_; have HO_107000 := n1_; have HO115 := n2_; have HO121 := n3_; have BK105 := n4_; have BK106 := n5_; have BK118 := n6_; have HB := n7_; clear n0_ n1_ n2_ n3_ n4_ n5_ n6_ n7_; clear hb ho37)))
         go_roundg k1
         case measure => have := HK1.out; omega
         case rel => exact ⟨(y119), (x6_1), (wrap64 (x7_1 + (Int.tmod t110 7))), (wrap64 (x8_1 + 1)), (t113), (t116), (.slice Ao31 t113.length co31), (by first | rfl | (simp; done) | (simp [*]; done)), (by first | rfl | (simp; done) | (simp [*]; done)), (by first | rfl | (simp; done) | (simp [*]; done)), H', ⟨by have := HK1.out; omega⟩, ⟨by (with_reducible repeat (first | apply Kd.R_alloc | apply Kd.R_drewN | apply Kd.R_drew)); exact Kd.R_mono HO121.out (fun _ hk => hk.2)⟩, ⟨by (with_reducible repeat (first | apply Kd.R_alloc | apply Kd.R_drewN | apply Kd.R_drew)); exact Kd.R_mono HO115.out (fun _ hk => hk.2)⟩, ⟨by (with_reducible repeat (first | refine blk_drewN ?_ _ | refine blk_drew ?_ | refine blk_alloc ?_ _)); exact BK105.out⟩, ⟨by (with_reducible repeat (first | refine blk_drewN ?_ _ | refine blk_drew ?_ | refine blk_alloc ?_ _)); exact BK106.out⟩, ⟨by repeat (first | (with_reducible first | exact HB.out | apply below_alloc | apply pw_below_drewN | apply below_drew1 | refine below_set ?_ GE105.out | refine below_set ?_ GE106.out | refine below_set ?_ GE118.out) | exact HB.out)⟩⟩
        ·
         replace c22 := Bool.eq_false_iff.mpr c22
         subst c22
         have H1 : (laws_FnLock.l0 k1 l0 x5_1 x6_1 (wrap64 (x7_1 + (Int.tmod t110 7))) (wrap64 (x8_1 + 1)) (wrap64 (1 + (Int.tmod t102 4))) (wrap64 (1 + (Int.tmod t103 20))) (wrap64 (1 + (Int.tmod t104 20))) t113 t116) = some r := by rw [if_neg (show ¬ (false = true) by decide)] at H; exact H
         clear H
         have H := H1
         clear H1
         have H' := Aside0.mk H
         clear H
         go_wp2_with (first | (go_at_call 27; (with_reducible refine (laws_at.calls _ _ l0 x8_1 t110 _ ?side1 ?side2 A15.out).mono ?_); (case side1 => repeat (first | exact (Kd.C_below HR0.out HB.out) | (with_reducible refine Kd.C_alloc ?_ _) | (with_reducible refine Kd.C_drewN ?_ _) | (with_reducible refine Kd.C_drew ?_))); (case side2 => exact HC0.out); rintro e w' ⟨rfl, ⟨nd, rfl⟩⟩; (try first | exact ⟨rfl, _, World.drewN_drewN _ _ _⟩ | exact ⟨rfl, _, Eq.trans (World.drewN_drewN _ _ _) (congrArg (World.drewN _) (Nat.add_assoc _ _ _))⟩); have hnb38 := NB106_105.out; have hnc38 := NB105_106.out; have hcz39_0 : wr.cell? ⟨gb106, 0, none⟩ = some (u107000) := (blk_cell BK106.out 0).trans rfl; have hcz39_1 : wr.cell? ⟨gb106, 1, none⟩ = some (.int .i64 x107001_1) := (blk_cell BK106.out 1).trans rfl; have hfz39_0 := blk_frozen BK106.out 0; have hfz39_1 := blk_frozen BK106.out 1; obtain ⟨Ao40, co40, eo40⟩ := Kd.R_slice HO_107000.out; subst eo40) | (go_at_call 22; (with_reducible refine (impl_LockedAt.calls _ _ x107000_1 x107001_1 (wrap64 (x7_1 + (Int.tmod t110 7))) t111 _ ?side1 ?side2 A16.out).mono ?_); (case side1 => repeat (first | exact (Kd.R_reads' HO_107000.out).2.2 | (with_reducible refine Kd.C_alloc ?_ _) | (with_reducible refine Kd.C_drewN ?_ _) | (with_reducible refine Kd.C_drew ?_))); (case side2 => exact (Kd.R_reads' HO_107000.out).2.1); rintro e w41 ⟨rfl, hb⟩; have n0_ := Aside0.mk (Kd.R_below (qrf6 HO_5.out) hb); have n1_ := Aside0.mk (Kd.R_below (qrf6 HO_107000.out) hb); have n2_ := Aside0.mk (blk_below (g := gb105) (o := .cells #[.int .i64 (wrap64 (1 + (Int.tmod t102 4))), .int .i64 (wrap64 (1 + (Int.tmod t103 20))), .int .i64 (wrap64 (1 + (Int.tmod t104 20)))] 40 (0, 0)) (qbf6 BK105.out) hb); have n3_ := Aside0.mk (blk_below (g := gb106) (o := .cells #[.slice Ao40 x107000_1.length co40, .int .i64 x107001_1] 30 (0, 0)) (qbf6 BK106.out) hb); have n4_ := Aside0.mk (below_step (qw2f6 HB.out GE105.out GE106.out) hb); clear HO_5; clear HO_107000; clear BK105; clear BK106; clear HB; have HO_5 := n0_; have HO_107000 := n1_; have BK105 := n2_; have BK106 := n3_; have HB := n4_; clear n0_ n1_ n2_ n3_ n4_; (try clear hb); (try clear hb2); (try clear hk); (try clear hi)) | (go_at_call 27; (with_reducible refine (laws_at.calls _ _ l0 (wrap64 (x8_1 + 1)) t112 _ ?side1 ?side2 A18.out).mono ?_); (case side1 => repeat (first | exact (Kd.C_below HR0.out HB.out) | (with_reducible refine Kd.C_alloc ?_ _) | (with_reducible refine Kd.C_drewN ?_ _) | (with_reducible refine Kd.C_drew ?_))); (case side2 => exact HC0.out); rintro e w' ⟨rfl, ⟨nd, rfl⟩⟩; (try first | exact ⟨rfl, _, World.drewN_drewN _ _ _⟩ | exact ⟨rfl, _, Eq.trans (World.drewN_drewN _ _ _) (congrArg (World.drewN _) (Nat.add_assoc _ _ _))⟩); have hcz42_0 : w41.cell? ⟨gb105, 0, none⟩ = some (.int .i64 (wrap64 (1 + (Int.tmod t102 4)))) := (blk_cell BK105.out 0).trans rfl; have hcz42_1 : w41.cell? ⟨gb105, 1, none⟩ = some (.int .i64 (wrap64 (1 + (Int.tmod t103 20)))) := (blk_cell BK105.out 1).trans rfl; have hcz42_2 : w41.cell? ⟨gb105, 2, none⟩ = some (.int .i64 (wrap64 (1 + (Int.tmod t104 20)))) := (blk_cell BK105.out 2).trans rfl; have hfz42_0 := blk_frozen BK105.out 0; have hfz42_1 := blk_frozen BK105.out 1; have hfz42_2 := blk_frozen BK105.out 2; have hcz43_0 : w41.cell? ⟨gb106, 0, none⟩ = some (.slice Ao40 x107000_1.length co40) := (blk_cell BK106.out 0).trans rfl; have hcz43_1 : w41.cell? ⟨gb106, 1, none⟩ = some (.int .i64 x107001_1) := (blk_cell BK106.out 1).trans rfl; have hfz43_0 := blk_frozen BK106.out 0; have hfz43_1 := blk_frozen BK106.out 1) | (go_at_call 28; (with_reducible refine (impl_LockGood.calls k1 (wrap64 (1 + (Int.tmod t102 4))) (wrap64 (1 + (Int.tmod t103 20))) (wrap64 (1 + (Int.tmod t104 20))) _ _ x107000_1 x107001_1 (wrap64 (x7_1 + (Int.tmod t110 7))) t113 t116 false _ ?side1 ?side2 A20.out).mono ?_); (case side1 => repeat (first | exact (Kd.R_reads' HO_107000.out).2.2 | (with_reducible refine Kd.C_alloc ?_ _) | (with_reducible refine Kd.C_drewN ?_ _) | (with_reducible refine Kd.C_drew ?_))); (case side2 => exact (Kd.R_reads' HO_107000.out).2.1); rintro e w44 ⟨v114, rfl, ho0, hb⟩; have n0_ := Aside0.mk (Kd.R_elder' (qrf6 HO_5.out) (Kd.R_base ho0) hb); have n1_ := Aside0.mk (Kd.R_elder' (qrf6 HO_107000.out) (Kd.R_base ho0) hb); have n2_ := Aside0.mk (Kd.R_lower (Kd.R_new' (Kd.R_new' ho0 (Kd.R_lt (qrf6 HO_5.out))) (Kd.R_lt (qrf6 HO_107000.out))) (below_size (qw2f6 HB.out GE105.out GE106.out))); have n3_ := Aside0.mk (blk_below (g := gb105) (o := .cells #[.int .i64 (wrap64 (1 + (Int.tmod t102 4))), .int .i64 (wrap64 (1 + (Int.tmod t103 20))), .int .i64 (wrap64 (1 + (Int.tmod t104 20)))] 40 (0, 0)) (qbf6 BK105.out) hb); have n4_ := Aside0.mk (blk_below (g := gb106) (o := .cells #[.slice Ao40 x107000_1.length co40, .int .i64 x107001_1] 30 (0, 0)) (qbf6 BK106.out) hb); have n5_ := Aside0.mk (below_step (qw2f6 HB.out GE105.out GE106.out) hb); clear HO_5; clear HO_107000; clear BK105; clear BK106; clear HB; have HO_5 := n0_; have HO_107000 := n1_; have HO115 := n2_; have BK105 := n3_; have BK106 := n4_; have HB := n5_; clear n0_ n1_ n2_ n3_ n4_ n5_; (try clear hb); (try clear hb2); (try clear hk); (try clear hi); (try clear ho0)) | ((with_reducible refine gate_dst (N := 9) rfl ?_); refine box_event ?hg (N := 9) ?hd (cs := #[.slice none 0 0, .int .i64 0]) (t := 30) ?hr ?_; (case hd => rfl); (case hg => rfl); (case hr => first | (go_simp; done) | (go_simp; rfl)); intro gb118 hg w45 hbox hb; have n0_ := Aside0.mk (Kd.R_below (qrf6 HO_5.out) hb); have n1_ := Aside0.mk (Kd.R_below (qrf6 HO_107000.out) hb); have n2_ := Aside0.mk (Kd.R_below (qrf6 HO115.out) hb); have n3_ := Aside0.mk (blk_below (g := gb105) (o := .cells #[.int .i64 (wrap64 (1 + (Int.tmod t102 4))), .int .i64 (wrap64 (1 + (Int.tmod t103 20))), .int .i64 (wrap64 (1 + (Int.tmod t104 20)))] 40 (0, 0)) (qbf6 BK105.out) hb); have n4_ := Aside0.mk (blk_below (g := gb106) (o := .cells #[.slice Ao40 x107000_1.length co40, .int .i64 x107001_1] 30 (0, 0)) (qbf6 BK106.out) hb); have n5_ := Aside0.mk (below_step (qw2f6 HB.out GE105.out GE106.out) hb); have n6_ := Aside0.mk (hbox); have n7_ := Aside0.mk ((by rw [hg]; exact (below_size (qw2f6 HB.out GE105.out GE106.out)) : w.heap.size ≤ gb118)); have n8_ := Aside0.mk ((by rw [hg]; exact (below_size (qw2f6 HB.out GE105.out GE106.out)) : w.heap.size ≤ gb118)); have n9_ := Aside0.mk ((by rw [hg]; exact Nat.ne_of_lt (blk_lt (g := gb105) (o := .cells #[.int .i64 (wrap64 (1 + (Int.tmod t102 4))), .int .i64 (wrap64 (1 + (Int.tmod t103 20))), .int .i64 (wrap64 (1 + (Int.tmod t104 20)))] 40 (0, 0)) (qbf6 BK105.out)) : gb105 ≠ gb118)); have n10_ := Aside0.mk ((by rw [hg]; exact Nat.ne_of_gt (blk_lt (g := gb105) (o := .cells #[.int .i64 (wrap64 (1 + (Int.tmod t102 4))), .int .i64 (wrap64 (1 + (Int.tmod t103 20))), .int .i64 (wrap64 (1 + (Int.tmod t104 20)))] 40 (0, 0)) (qbf6 BK105.out)) : gb118 ≠ gb105)); have n11_ := Aside0.mk ((by rw [hg]; exact Nat.ne_of_lt (blk_lt (g := gb106) (o := .cells #[.slice Ao40 x107000_1.length co40, .int .i64 x107001_1] 30 (0, 0)) (qbf6 BK106.out)) : gb106 ≠ gb118)); have n12_ := Aside0.mk ((by rw [hg]; exact Nat.ne_of_gt (blk_lt (g := gb106) (o := .cells #[.slice Ao40 x107000_1.length co40, .int .i64 x107001_1] 30 (0, 0)) (qbf6 BK106.out)) : gb118 ≠ gb106)); clear HO_5; clear HO_107000; clear HO115; clear BK105; clear BK106; clear HB; have HO_5 := n0_; have HO_107000 := n1_; have HO115 := n2_; have BK105 := n3_; have BK106 := n4_; have HB := n5_; have BK118 := n6_; have GW118 := n7_; have GE118 := n8_; have NB105_118 := n9_; have NB118_105 := n10_; have NB106_118 := n11_; have NB118_106 := n12_; clear n0_ n1_ n2_ n3_ n4_ n5_ n6_ n7_ n8_ n9_ n10_ n11_ n12_; clear hb hbox hg; obtain ⟨Ao46, co46, eo46⟩ := Kd.R_slice HO115.out; subst eo46; have hnb47 := NB118_105.out; have hnc47 := NB105_118.out; have hnb48 := NB118_106.out; have hnc48 := NB106_118.out; have hcz49_0 : w45.cell? ⟨gb118, 0, none⟩ = some (.slice none 0 0) := (blk_cell BK118.out 0).trans rfl; have hcz49_1 : w45.cell? ⟨gb118, 1, none⟩ = some (.int .i64 0) := (blk_cell BK118.out 1).trans rfl; have hfz49_0 := blk_frozen BK118.out 0; have hfz49_1 := blk_frozen BK118.out 1; have hcz50_0 : w45.cell? ⟨gb106, 0, none⟩ = some (.slice Ao40 x107000_1.length co40) := (blk_cell BK106.out 0).trans rfl; have hcz50_1 : w45.cell? ⟨gb106, 1, none⟩ = some (.int .i64 x107001_1) := (blk_cell BK106.out 1).trans rfl; have hfz50_0 := blk_frozen BK106.out 0; have hfz50_1 := blk_frozen BK106.out 1))
         repeat (go_quiet (first | (go_at_call 27; (with_reducible refine (laws_at.calls _ _ l0 x8_1 t110 _ ?side1 ?side2 A15.out).mono ?_); (case side1 => repeat (first | exact (Kd.C_below HR0.out HB.out) | (with_reducible refine Kd.C_alloc ?_ _) | (with_reducible refine Kd.C_drewN ?_ _) | (with_reducible refine Kd.C_drew ?_))); (case side2 => exact HC0.out); rintro e w' ⟨rfl, ⟨nd, rfl⟩⟩; (try first | exact ⟨rfl, _, World.drewN_drewN _ _ _⟩ | exact ⟨rfl, _, Eq.trans (World.drewN_drewN _ _ _) (congrArg (World.drewN _) (Nat.add_assoc _ _ _))⟩); have hnb38 := NB106_105.out; have hnc38 := NB105_106.out; have hcz39_0 : wr.cell? ⟨gb106, 0, none⟩ = some (u107000) := (blk_cell BK106.out 0).trans rfl; have hcz39_1 : wr.cell? ⟨gb106, 1, none⟩ = some (.int .i64 x107001_1) := (blk_cell BK106.out 1).trans rfl; have hfz39_0 := blk_frozen BK106.out 0; have hfz39_1 := blk_frozen BK106.out 1; obtain ⟨Ao40, co40, eo40⟩ := Kd.R_slice HO_107000.out; subst eo40) | (go_at_call 22; (with_reducible refine (impl_LockedAt.calls _ _ x107000_1 x107001_1 (wrap64 (x7_1 + (Int.tmod t110 7))) t111 _ ?side1 ?side2 A16.out).mono ?_); (case side1 => repeat (first | exact (Kd.R_reads' HO_107000.out).2.2 | (with_reducible refine Kd.C_alloc ?_ _) | (with_reducible refine Kd.C_drewN ?_ _) | (with_reducible refine Kd.C_drew ?_))); (case side2 => exact (Kd.R_reads' HO_107000.out).2.1); rintro e w41 ⟨rfl, hb⟩; have n0_ := Aside0.mk (Kd.R_below (qrf6 HO_5.out) hb); have n1_ := Aside0.mk (Kd.R_below (qrf6 HO_107000.out) hb); have n2_ := Aside0.mk (blk_below (g := gb105) (o := .cells #[.int .i64 (wrap64 (1 + (Int.tmod t102 4))), .int .i64 (wrap64 (1 + (Int.tmod t103 20))), .int .i64 (wrap64 (1 + (Int.tmod t104 20)))] 40 (0, 0)) (qbf6 BK105.out) hb); have n3_ := Aside0.mk (blk_below (g := gb106) (o := .cells #[.slice Ao40 x107000_1.length co40, .int .i64 x107001_1] 30 (0, 0)) (qbf6 BK106.out) hb); have n4_ := Aside0.mk (below_step (qw2f6 HB.out GE105.out GE106.out) hb); clear HO_5; clear HO_107000; clear BK105; clear BK106; clear HB; have HO_5 := n0_; have HO_107000 := n1_; have BK105 := n2_; have BK106 := n3_; have HB := n4_; clear n0_ n1_ n2_ n3_ n4_; (try clear hb); (try clear hb2); (try clear hk); (try clear hi)) | (go_at_call 27; (with_reducible refine (laws_at.calls _ _ l0 (wrap64 (x8_1 + 1)) t112 _ ?side1 ?side2 A18.out).mono ?_); (case side1 => repeat (first | exact (Kd.C_below HR0.out HB.out) | (with_reducible refine Kd.C_alloc ?_ _) | (with_reducible refine Kd.C_drewN ?_ _) | (with_reducible refine Kd.C_drew ?_))); (case side2 => exact HC0.out); rintro e w' ⟨rfl, ⟨nd, rfl⟩⟩; (try first | exact ⟨rfl, _, World.drewN_drewN _ _ _⟩ | exact ⟨rfl, _, Eq.trans (World.drewN_drewN _ _ _) (congrArg (World.drewN _) (Nat.add_assoc _ _ _))⟩); have hcz42_0 : w41.cell? ⟨gb105, 0, none⟩ = some (.int .i64 (wrap64 (1 + (Int.tmod t102 4)))) := (blk_cell BK105.out 0).trans rfl; have hcz42_1 : w41.cell? ⟨gb105, 1, none⟩ = some (.int .i64 (wrap64 (1 + (Int.tmod t103 20)))) := (blk_cell BK105.out 1).trans rfl; have hcz42_2 : w41.cell? ⟨gb105, 2, none⟩ = some (.int .i64 (wrap64 (1 + (Int.tmod t104 20)))) := (blk_cell BK105.out 2).trans rfl; have hfz42_0 := blk_frozen BK105.out 0; have hfz42_1 := blk_frozen BK105.out 1; have hfz42_2 := blk_frozen BK105.out 2; have hcz43_0 : w41.cell? ⟨gb106, 0, none⟩ = some (.slice Ao40 x107000_1.length co40) := (blk_cell BK106.out 0).trans rfl; have hcz43_1 : w41.cell? ⟨gb106, 1, none⟩ = some (.int .i64 x107001_1) := (blk_cell BK106.out 1).trans rfl; have hfz43_0 := blk_frozen BK106.out 0; have hfz43_1 := blk_frozen BK106.out 1) | (go_at_call 28; (with_reducible refine (impl_LockGood.calls k1 (wrap64 (1 + (Int.tmod t102 4))) (wrap64 (1 + (Int.tmod t103 20))) (wrap64 (1 + (Int.tmod t104 20))) _ _ x107000_1 x107001_1 (wrap64 (x7_1 + (Int.tmod t110 7))) t113 t116 false _ ?side1 ?side2 A20.out).mono ?_); (case side1 => repeat (first | exact (Kd.R_reads' HO_107000.out).2.2 | (with_reducible refine Kd.C_alloc ?_ _) | (with_reducible refine Kd.C_drewN ?_ _) | (with_reducible refine Kd.C_drew ?_))); (case side2 => exact (Kd.R_reads' HO_107000.out).2.1); rintro e w44 ⟨v114, rfl, ho0, hb⟩; have n0_ := Aside0.mk (Kd.R_elder' (qrf6 HO_5.out) (Kd.R_base ho0) hb); have n1_ := Aside0.mk (Kd.R_elder' (qrf6 HO_107000.out) (Kd.R_base ho0) hb); have n2_ := Aside0.mk (Kd.R_lower (Kd.R_new' (Kd.R_new' ho0 (Kd.R_lt (qrf6 HO_5.out))) (Kd.R_lt (qrf6 HO_107000.out))) (below_size (qw2f6 HB.out GE105.out GE106.out))); have n3_ := Aside0.mk (blk_below (g := gb105) (o := .cells #[.int .i64 (wrap64 (1 + (Int.tmod t102 4))), .int .i64 (wrap64 (1 + (Int.tmod t103 20))), .int .i64 (wrap64 (1 + (Int.tmod t104 20)))] 40 (0, 0)) (qbf6 BK105.out) hb); have n4_ := Aside0.mk (blk_below (g := gb106) (o := .cells #[.slice Ao40 x107000_1.length co40, .int .i64 x107001_1] 30 (0, 0)) (qbf6 BK106.out) hb); have n5_ := Aside0.mk (below_step (qw2f6 HB.out GE105.out GE106.out) hb); clear HO_5; clear HO_107000; clear BK105; clear BK106; clear HB; have HO_5 := n0_; have HO_107000 := n1_; have HO115 := n2_; have BK105 := n3_; have BK106 := n4_; have HB := n5_; clear n0_ n1_ n2_ n3_ n4_ n5_; (try clear hb); (try clear hb2); (try clear hk); (try clear hi); (try clear ho0)) | ((with_reducible refine gate_dst (N := 9) rfl ?_); refine box_event ?hg (N := 9) ?hd (cs := #[.slice none 0 0, .int .i64 0]) (t := 30) ?hr ?_; (case hd => rfl); (case hg => rfl); (case hr => first | (go_simp; done) | (go_simp; rfl)); intro gb118 hg w45 hbox hb; have n0_ := Aside0.mk (Kd.R_below (qrf6 HO_5.out) hb); have n1_ := Aside0.mk (Kd.R_below (qrf6 HO_107000.out) hb); have n2_ := Aside0.mk (Kd.R_below (qrf6 HO115.out) hb); have n3_ := Aside0.mk (blk_below (g := gb105) (o := .cells #[.int .i64 (wrap64 (1 + (Int.tmod t102 4))), .int .i64 (wrap64 (1 + (Int.tmod t103 20))), .int .i64 (wrap64 (1 + (Int.tmod t104 20)))] 40 (0, 0)) (qbf6 BK105.out) hb); have n4_ := Aside0.mk (blk_below (g := gb106) (o := .cells #[.slice Ao40 x107000_1.length co40, .int .i64 x107001_1] 30 (0, 0)) (qbf6 BK106.out) hb); have n5_ := Aside0.mk (below_step (qw2f6 HB.out GE105.out GE106.out) hb); have n6_ := Aside0.mk (hbox); have n7_ := Aside0.mk ((by rw [hg]; exact (below_size (qw2f6 HB.out GE105.out GE106.out)) : w.heap.size ≤ gb118)); have n8_ := Aside0.mk ((by rw [hg]; exact (below_size (qw2f6 HB.out GE105.out GE106.out)) : w.heap.size ≤ gb118)); have n9_ := Aside0.mk ((by rw [hg]; exact Nat.ne_of_lt (blk_lt (g := gb105) (o := .cells #[.int .i64 (wrap64 (1 + (Int.tmod t102 4))), .int .i64 (wrap64 (1 + (Int.tmod t103 20))), .int .i64 (wrap64 (1 + (Int.tmod t104 20)))] 40 (0, 0)) (qbf6 BK105.out)) : gb105 ≠ gb118)); have n10_ := Aside0.mk ((by rw [hg]; exact Nat.ne_of_gt (blk_lt (g := gb105) (o := .cells #[.int .i64 (wrap64 (1 + (Int.tmod t102 4))), .int .i64 (wrap64 (1 + (Int.tmod t103 20))), .int .i64 (wrap64 (1 + (Int.tmod t104 20)))] 40 (0, 0)) (qbf6 BK105.out)) : gb118 ≠ gb105)); have n11_ := Aside0.mk ((by rw [hg]; exact Nat.ne_of_lt (blk_lt (g := gb106) (o := .cells #[.slice Ao40 x107000_1.length co40, .int .i64 x107001_1] 30 (0, 0)) (qbf6 BK106.out)) : gb106 ≠ gb118)); have n12_ := Aside0.mk ((by rw [hg]; exact Nat.ne_of_gt (blk_lt (g := gb106) (o := .cells #[.slice Ao40 x107000_1.length co40, .int .i64 x107001_1] 30 (0, 0)) (qbf6 BK106.out)) : gb118 ≠ gb106)); clear HO_5; clear HO_107000; clear HO115; clear BK105; clear BK106; clear HB; have HO_5 := n0_; have HO_107000 := n1_; have HO115 := n2_; have BK105 := n3_; have BK106 := n4_; have HB := n5_; have BK118 := n6_; have GW118 := n7_; have GE118 := n8_; have NB105_118 := n9_; have NB118_105 := n10_; have NB106_118 := n11_; have NB118_106 := n12_; clear n0_ n1_ n2_ n3_ n4_ n5_ n6_ n7_ n8_ n9_ n10_ n11_ n12_; clear hb hbox hg; obtain ⟨Ao46, co46, eo46⟩ := Kd.R_slice HO115.out; subst eo46; have hnb47 := NB118_105.out; have hnc47 := NB105_118.out; have hnb48 := NB118_106.out; have hnc48 := NB106_118.out; have hcz49_0 : w45.cell? ⟨gb118, 0, none⟩ = some (.slice none 0 0) := (blk_cell BK118.out 0).trans rfl; have hcz49_1 : w45.cell? ⟨gb118, 1, none⟩ = some (.int .i64 0) := (blk_cell BK118.out 1).trans rfl; have hfz49_0 := blk_frozen BK118.out 0; have hfz49_1 := blk_frozen BK118.out 1; have hcz50_0 : w45.cell? ⟨gb106, 0, none⟩ = some (.slice Ao40 x107000_1.length co40) := (blk_cell BK106.out 0).trans rfl; have hcz50_1 : w45.cell? ⟨gb106, 1, none⟩ = some (.int .i64 x107001_1) := (blk_cell BK106.out 1).trans rfl; have hfz50_0 := blk_frozen BK106.out 0; have hfz50_1 := blk_frozen BK106.out 1)); try go_wp2_with (first | (go_at_call 27; (with_reducible refine (laws_at.calls _ _ l0 x8_1 t110 _ ?side1 ?side2 A15.out).mono ?_); (case side1 => repeat (first | exact (Kd.C_below HR0.out HB.out) | (with_reducible refine Kd.C_alloc ?_ _) | (with_reducible refine Kd.C_drewN ?_ _) | (with_reducible refine Kd.C_drew ?_))); (case side2 => exact HC0.out); rintro e w' ⟨rfl, ⟨nd, rfl⟩⟩; (try first | exact ⟨rfl, _, World.drewN_drewN _ _ _⟩ | exact ⟨rfl, _, Eq.trans (World.drewN_drewN _ _ _) (congrArg (World.drewN _) (Nat.add_assoc _ _ _))⟩); have hnb38 := NB106_105.out; have hnc38 := NB105_106.out; have hcz39_0 : wr.cell? ⟨gb106, 0, none⟩ = some (u107000) := (blk_cell BK106.out 0).trans rfl; have hcz39_1 : wr.cell? ⟨gb106, 1, none⟩ = some (.int .i64 x107001_1) := (blk_cell BK106.out 1).trans rfl; have hfz39_0 := blk_frozen BK106.out 0; have hfz39_1 := blk_frozen BK106.out 1; obtain ⟨Ao40, co40, eo40⟩ := Kd.R_slice HO_107000.out; subst eo40) | (go_at_call 22; (with_reducible refine (impl_LockedAt.calls _ _ x107000_1 x107001_1 (wrap64 (x7_1 + (Int.tmod t110 7))) t111 _ ?side1 ?side2 A16.out).mono ?_); (case side1 => repeat (first | exact (Kd.R_reads' HO_107000.out).2.2 | (with_reducible refine Kd.C_alloc ?_ _) | (with_reducible refine Kd.C_drewN ?_ _) | (with_reducible refine Kd.C_drew ?_))); (case side2 => exact (Kd.R_reads' HO_107000.out).2.1); rintro e w41 ⟨rfl, hb⟩; have n0_ := Aside0.mk (Kd.R_below (qrf6 HO_5.out) hb); have n1_ := Aside0.mk (Kd.R_below (qrf6 HO_107000.out) hb); have n2_ := Aside0.mk (blk_below (g := gb105) (o := .cells #[.int .i64 (wrap64 (1 + (Int.tmod t102 4))), .int .i64 (wrap64 (1 + (Int.tmod t103 20))), .int .i64 (wrap64 (1 + (Int.tmod t104 20)))] 40 (0, 0)) (qbf6 BK105.out) hb); have n3_ := Aside0.mk (blk_below (g := gb106) (o := .cells #[.slice Ao40 x107000_1.length co40, .int .i64 x107001_1] 30 (0, 0)) (qbf6 BK106.out) hb); have n4_ := Aside0.mk (below_step (qw2f6 HB.out GE105.out GE106.out) hb); clear HO_5; clear HO_107000; clear BK105; clear BK106; clear HB; have HO_5 := n0_; have HO_107000 := n1_; have BK105 := n2_; have BK106 := n3_; have HB := n4_; clear n0_ n1_ n2_ n3_ n4_; (try clear hb); (try clear hb2); (try clear hk); (try clear hi)) | (go_at_call 27; (with_reducible refine (laws_at.calls _ _ l0 (wrap64 (x8_1 + 1)) t112 _ ?side1 ?side2 A18.out).mono ?_); (case side1 => repeat (first | exact (Kd.C_below HR0.out HB.out) | (with_reducible refine Kd.C_alloc ?_ _) | (with_reducible refine Kd.C_drewN ?_ _) | (with_reducible refine Kd.C_drew ?_))); (case side2 => exact HC0.out); rintro e w' ⟨rfl, ⟨nd, rfl⟩⟩; (try first | exact ⟨rfl, _, World.drewN_drewN _ _ _⟩ | exact ⟨rfl, _, Eq.trans (World.drewN_drewN _ _ _) (congrArg (World.drewN _) (Nat.add_assoc _ _ _))⟩); have hcz42_0 : w41.cell? ⟨gb105, 0, none⟩ = some (.int .i64 (wrap64 (1 + (Int.tmod t102 4)))) := (blk_cell BK105.out 0).trans rfl; have hcz42_1 : w41.cell? ⟨gb105, 1, none⟩ = some (.int .i64 (wrap64 (1 + (Int.tmod t103 20)))) := (blk_cell BK105.out 1).trans rfl; have hcz42_2 : w41.cell? ⟨gb105, 2, none⟩ = some (.int .i64 (wrap64 (1 + (Int.tmod t104 20)))) := (blk_cell BK105.out 2).trans rfl; have hfz42_0 := blk_frozen BK105.out 0; have hfz42_1 := blk_frozen BK105.out 1; have hfz42_2 := blk_frozen BK105.out 2; have hcz43_0 : w41.cell? ⟨gb106, 0, none⟩ = some (.slice Ao40 x107000_1.length co40) := (blk_cell BK106.out 0).trans rfl; have hcz43_1 : w41.cell? ⟨gb106, 1, none⟩ = some (.int .i64 x107001_1) := (blk_cell BK106.out 1).trans rfl; have hfz43_0 := blk_frozen BK106.out 0; have hfz43_1 := blk_frozen BK106.out 1) | (go_at_call 28; (with_reducible refine (impl_LockGood.calls k1 (wrap64 (1 + (Int.tmod t102 4))) (wrap64 (1 + (Int.tmod t103 20))) (wrap64 (1 + (Int.tmod t104 20))) _ _ x107000_1 x107001_1 (wrap64 (x7_1 + (Int.tmod t110 7))) t113 t116 false _ ?side1 ?side2 A20.out).mono ?_); (case side1 => repeat (first | exact (Kd.R_reads' HO_107000.out).2.2 | (with_reducible refine Kd.C_alloc ?_ _) | (with_reducible refine Kd.C_drewN ?_ _) | (with_reducible refine Kd.C_drew ?_))); (case side2 => exact (Kd.R_reads' HO_107000.out).2.1); rintro e w44 ⟨v114, rfl, ho0, hb⟩; have n0_ := Aside0.mk (Kd.R_elder' (qrf6 HO_5.out) (Kd.R_base ho0) hb); have n1_ := Aside0.mk (Kd.R_elder' (qrf6 HO_107000.out) (Kd.R_base ho0) hb); have n2_ := Aside0.mk (Kd.R_lower (Kd.R_new' (Kd.R_new' ho0 (Kd.R_lt (qrf6 HO_5.out))) (Kd.R_lt (qrf6 HO_107000.out))) (below_size (qw2f6 HB.out GE105.out GE106.out))); have n3_ := Aside0.mk (blk_below (g := gb105) (o := .cells #[.int .i64 (wrap64 (1 + (Int.tmod t102 4))), .int .i64 (wrap64 (1 + (Int.tmod t103 20))), .int .i64 (wrap64 (1 + (Int.tmod t104 20)))] 40 (0, 0)) (qbf6 BK105.out) hb); have n4_ := Aside0.mk (blk_below (g := gb106) (o := .cells #[.slice Ao40 x107000_1.length co40, .int .i64 x107001_1] 30 (0, 0)) (qbf6 BK106.out) hb); have n5_ := Aside0.mk (below_step (qw2f6 HB.out GE105.out GE106.out) hb); clear HO_5; clear HO_107000; clear BK105; clear BK106; clear HB; have HO_5 := n0_; have HO_107000 := n1_; have HO115 := n2_; have BK105 := n3_; have BK106 := n4_; have HB := n5_; clear n0_ n1_ n2_ n3_ n4_ n5_; (try clear hb); (try clear hb2); (try clear hk); (try clear hi); (try clear ho0)) | ((with_reducible refine gate_dst (N := 9) rfl ?_); refine box_event ?hg (N := 9) ?hd (cs := #[.slice none 0 0, .int .i64 0]) (t := 30) ?hr ?_; (case hd => rfl); (case hg => rfl); (case hr => first | (go_simp; done) | (go_simp; rfl)); intro gb118 hg w45 hbox hb; have n0_ := Aside0.mk (Kd.R_below (qrf6 HO_5.out) hb); have n1_ := Aside0.mk (Kd.R_below (qrf6 HO_107000.out) hb); have n2_ := Aside0.mk (Kd.R_below (qrf6 HO115.out) hb); have n3_ := Aside0.mk (blk_below (g := gb105) (o := .cells #[.int .i64 (wrap64 (1 + (Int.tmod t102 4))), .int .i64 (wrap64 (1 + (Int.tmod t103 20))), .int .i64 (wrap64 (1 + (Int.tmod t104 20)))] 40 (0, 0)) (qbf6 BK105.out) hb); have n4_ := Aside0.mk (blk_below (g := gb106) (o := .cells #[.slice Ao40 x107000_1.length co40, .int .i64 x107001_1] 30 (0, 0)) (qbf6 BK106.out) hb); have n5_ := Aside0.mk (below_step (qw2f6 HB.out GE105.out GE106.out) hb); have n6_ := Aside0.mk (hbox); have n7_ := Aside0.mk ((by rw [hg]; exact (below_size (qw2f6 HB.out GE105.out GE106.out)) : w.heap.size ≤ gb118)); have n8_ := Aside0.mk ((by rw [hg]; exact (below_size (qw2f6 HB.out GE105.out GE106.out)) : w.heap.size ≤ gb118)); have n9_ := Aside0.mk ((by rw [hg]; exact Nat.ne_of_lt (blk_lt (g := gb105) (o := .cells #[.int .i64 (wrap64 (1 + (Int.tmod t102 4))), .int .i64 (wrap64 (1 + (Int.tmod t103 20))), .int .i64 (wrap64 (1 + (Int.tmod t104 20)))] 40 (0, 0)) (qbf6 BK105.out)) : gb105 ≠ gb118)); have n10_ := Aside0.mk ((by rw [hg]; exact Nat.ne_of_gt (blk_lt (g := gb105) (o := .cells #[.int .i64 (wrap64 (1 + (Int.tmod t102 4))), .int .i64 (wrap64 (1 + (Int.tmod t103 20))), .int .i64 (wrap64 (1 + (Int.tmod t104 20)))] 40 (0, 0)) (qbf6 BK105.out)) : gb118 ≠ gb105)); have n11_ := Aside0.mk ((by rw [hg]; exact Nat.ne_of_lt (blk_lt (g := gb106) (o := .cells #[.slice Ao40 x107000_1.length co40, .int .i64 x107001_1] 30 (0, 0)) (qbf6 BK106.out)) : gb106 ≠ gb118)); have n12_ := Aside0.mk ((by rw [hg]; exact Nat.ne_of_gt (blk_lt (g := gb106) (o := .cells #[.slice Ao40 x107000_1.length co40, .int .i64 x107001_1] 30 (0, 0)) (qbf6 BK106.out)) : gb118 ≠ gb106)); clear HO_5; clear HO_107000; clear HO115; clear BK105; clear BK106; clear HB; have HO_5 := n0_; have HO_107000 := n1_; have HO115 := n2_; have BK105 := n3_; have BK106 := n4_; have HB := n5_; have BK118 := n6_; have GW118 := n7_; have GE118 := n8_; have NB105_118 := n9_; have NB118_105 := n10_; have NB106_118 := n11_; have NB118_106 := n12_; clear n0_ n1_ n2_ n3_ n4_ n5_ n6_ n7_ n8_ n9_ n10_ n11_ n12_; clear hb hbox hg; obtain ⟨Ao46, co46, eo46⟩ := Kd.R_slice HO115.out; subst eo46; have hnb47 := NB118_105.out; have hnc47 := NB105_118.out; have hnb48 := NB118_106.out; have hnc48 := NB106_118.out; have hcz49_0 : w45.cell? ⟨gb118, 0, none⟩ = some (.slice none 0 0) := (blk_cell BK118.out 0).trans rfl; have hcz49_1 : w45.cell? ⟨gb118, 1, none⟩ = some (.int .i64 0) := (blk_cell BK118.out 1).trans rfl; have hfz49_0 := blk_frozen BK118.out 0; have hfz49_1 := blk_frozen BK118.out 1; have hcz50_0 : w45.cell? ⟨gb106, 0, none⟩ = some (.slice Ao40 x107000_1.length co40) := (blk_cell BK106.out 0).trans rfl; have hcz50_1 : w45.cell? ⟨gb106, 1, none⟩ = some (.int .i64 x107001_1) := (blk_cell BK106.out 1).trans rfl; have hfz50_0 := blk_frozen BK106.out 0; have hfz50_1 := blk_frozen BK106.out 1)))
         go_roundg k1
         case measure => have := HK1.out; omega
         case rel => exact ⟨(x5_1), (x6_1), (wrap64 (x7_1 + (Int.tmod t110 7))), (wrap64 (x8_1 + 1)), (t113), (t116), (.slice Ao46 t113.length co46), (by first | rfl | (simp; done) | (simp [*]; done)), (by first | rfl | (simp; done) | (simp [*]; done)), (by first | rfl | (simp; done) | (simp [*]; done)), H', ⟨by have := HK1.out; omega⟩, ⟨by (with_reducible repeat (first | apply Kd.R_alloc | apply Kd.R_drewN | apply Kd.R_drew)); exact Kd.R_mono (Kd.R_far (p := ⟨gb106, 1, none⟩) (Kd.R_far (p := ⟨gb106, 0, none⟩) (Kd.R_far (p := ⟨gb118, 1, none⟩) (Kd.R_far (p := ⟨gb118, 0, none⟩) (Kd.R_types (Kd.R_types HO_5.out BK118.out (by decide)) BK106.out (by decide)) (fun _ hk => hk.1.2) (.slice Ao46 t113.length co46)) (fun _ hk => hk.1.2) (.int .i64 t116)) (fun _ hk => hk.2) (.slice Ao46 t113.length co46)) (fun _ hk => hk.2) (.int .i64 t116)) (fun _ hk => hk.1.1.2)⟩, ⟨by (with_reducible repeat (first | apply Kd.R_alloc | apply Kd.R_drewN | apply Kd.R_drew)); exact Kd.R_mono (Kd.R_far (p := ⟨gb106, 1, none⟩) (Kd.R_far (p := ⟨gb106, 0, none⟩) (Kd.R_far (p := ⟨gb118, 1, none⟩) (Kd.R_far (p := ⟨gb118, 0, none⟩) (Kd.R_types (Kd.R_types HO115.out BK118.out (by decide)) BK106.out (by decide)) (fun _ hk => hk.1.2) (.slice Ao46 t113.length co46)) (fun _ hk => hk.1.2) (.int .i64 t116)) (fun _ hk => hk.2) (.slice Ao46 t113.length co46)) (fun _ hk => hk.2) (.int .i64 t116)) (fun _ hk => hk.1.1.1.2)⟩, ⟨by (with_reducible repeat (first | refine blk_drewN ?_ _ | refine blk_drew ?_ | refine blk_alloc ?_ _)); refine blk_far ?_ NB105_106.out _; (with_reducible repeat (first | refine blk_drewN ?_ _ | refine blk_drew ?_ | refine blk_alloc ?_ _)); refine blk_far ?_ NB105_106.out _; (with_reducible repeat (first | refine blk_drewN ?_ _ | refine blk_drew ?_ | refine blk_alloc ?_ _)); refine blk_far ?_ NB105_118.out _; (with_reducible repeat (first | refine blk_drewN ?_ _ | refine blk_drew ?_ | refine blk_alloc ?_ _)); refine blk_far ?_ NB105_118.out _; (with_reducible repeat (first | refine blk_drewN ?_ _ | refine blk_drew ?_ | refine blk_alloc ?_ _)); exact BK105.out⟩, ⟨by (with_reducible repeat (first | refine blk_drewN ?_ _ | refine blk_drew ?_ | refine blk_alloc ?_ _)); refine blk_put (cs := #[.slice Ao46 t113.length co46, .int .i64 x107001_1]) ?_ 1 _ rfl; (with_reducible repeat (first | refine blk_drewN ?_ _ | refine blk_drew ?_ | refine blk_alloc ?_ _)); refine blk_put (cs := #[.slice Ao40 x107000_1.length co40, .int .i64 x107001_1]) ?_ 0 _ rfl; (with_reducible repeat (first | refine blk_drewN ?_ _ | refine blk_drew ?_ | refine blk_alloc ?_ _)); refine blk_far ?_ NB106_118.out _; (with_reducible repeat (first | refine blk_drewN ?_ _ | refine blk_drew ?_ | refine blk_alloc ?_ _)); refine blk_far ?_ NB106_118.out _; (with_reducible repeat (first | refine blk_drewN ?_ _ | refine blk_drew ?_ | refine blk_alloc ?_ _)); exact BK106.out⟩, ⟨by repeat (first | (with_reducible first | exact HB.out | apply below_alloc | apply pw_below_drewN | apply below_drew1 | refine below_set ?_ GE105.out | refine below_set ?_ GE106.out | refine below_set ?_ GE118.out) | exact HB.out)⟩⟩
      ·
       rw [if_neg c19] at H
       have c19b0 : ((Int.tmod t112 5) == 0) = false := beq_eq_false_iff_ne.mpr c19
       have c19b1 : ((Int.tmod t112 5) != 0) = true := bne_iff_ne.mpr c19
       replace H := Option.bind_eq_some_iff.mp H
       obtain ⟨⟨t122, t125, t126⟩, A510, H⟩ := H
       replace H : (if (t126 != (decide ((wrap64 (x7_1 + (Int.tmod t110 7))) ≥ x6_1))) = true then (some false) else (if t126 = true then (if x5_1.length < 17592186044416 then (laws_FnLock.l1 k1 l0 (x5_1 ++ [wrap64 (x7_1 + (Int.tmod t110 7))]) x6_1 (wrap64 (x7_1 + (Int.tmod t110 7))) x8_1 0 0 (wrap64 (1 + (Int.tmod t102 4))) (wrap64 (1 + (Int.tmod t103 20))) (wrap64 (1 + (Int.tmod t104 20))) t122 t125) else (none)) else (laws_FnLock.j2 k1 l0 x5_1 x6_1 (wrap64 (x7_1 + (Int.tmod t110 7))) x8_1 (wrap64 (1 + (Int.tmod t102 4))) (wrap64 (1 + (Int.tmod t103 20))) (wrap64 (1 + (Int.tmod t104 20))) t122 t125))) = some r := H
       have A51 := Aside0.mk A510
       clear A510
       by_cases c52 : (t126 != (decide ((wrap64 (x7_1 + (Int.tmod t110 7))) ≥ x6_1))) = true
       ·
        rw [if_pos c52] at H
        have c52b0 : (t126 != (decide ((wrap64 (x7_1 + (Int.tmod t110 7))) ≥ x6_1))) = true := c52
        (try (have c52b1 : decide (t126 = (decide ((wrap64 (x7_1 + (Int.tmod t110 7))) ≥ x6_1))) = false := by simpa using c52))
        (try (have c52b2 : (t126 == (decide ((wrap64 (x7_1 + (Int.tmod t110 7))) ≥ x6_1))) = false := by simpa using c52))
        (try (have c52b3 : ¬ (t126 = (decide ((wrap64 (x7_1 + (Int.tmod t110 7))) ≥ x6_1))) := by simpa using c52))
        clear c52
        exact absurd ((Option.some.inj H).trans hrt) (by simp)
       ·
        rw [if_neg c52] at H
        have c52b0 : (t126 != (decide ((wrap64 (x7_1 + (Int.tmod t110 7))) ≥ x6_1))) = false := by simpa using c52
        (try (have c52b1 : decide (t126 = (decide ((wrap64 (x7_1 + (Int.tmod t110 7))) ≥ x6_1))) = true := by simpa using c52))
        (try (have c52b2 : (t126 == (decide ((wrap64 (x7_1 + (Int.tmod t110 7))) ≥ x6_1))) = true := by simpa using c52))
        clear c52
        have HC53 := Aside0.mk H
        clear H
        go_upto_if 83 with (first | (go_at_call 27; (with_reducible refine (laws_at.calls _ _ l0 x8_1 t110 _ ?side1 ?side2 A15.out).mono ?_); (case side1 => repeat (first | exact (Kd.C_below HR0.out HB.out) | (with_reducible refine Kd.C_alloc ?_ _) | (with_reducible refine Kd.C_drewN ?_ _) | (with_reducible refine Kd.C_drew ?_))); (case side2 => exact HC0.out); rintro e w' ⟨rfl, ⟨nd, rfl⟩⟩; (try first | exact ⟨rfl, _, World.drewN_drewN _ _ _⟩ | exact ⟨rfl, _, Eq.trans (World.drewN_drewN _ _ _) (congrArg (World.drewN _) (Nat.add_assoc _ _ _))⟩); have hnb54 := NB106_105.out; have hnc54 := NB105_106.out; have hcz55_0 : wr.cell? ⟨gb106, 0, none⟩ = some (u107000) := (blk_cell BK106.out 0).trans rfl; have hcz55_1 : wr.cell? ⟨gb106, 1, none⟩ = some (.int .i64 x107001_1) := (blk_cell BK106.out 1).trans rfl; have hfz55_0 := blk_frozen BK106.out 0; have hfz55_1 := blk_frozen BK106.out 1; obtain ⟨Ao56, co56, eo56⟩ := Kd.R_slice HO_107000.out; subst eo56) | (go_at_call 22; (with_reducible refine (impl_LockedAt.calls _ _ x107000_1 x107001_1 (wrap64 (x7_1 + (Int.tmod t110 7))) t111 _ ?side1 ?side2 A16.out).mono ?_); (case side1 => repeat (first | exact (Kd.R_reads' HO_107000.out).2.2 | (with_reducible refine Kd.C_alloc ?_ _) | (with_reducible refine Kd.C_drewN ?_ _) | (with_reducible refine Kd.C_drew ?_))); (case side2 => exact (Kd.R_reads' HO_107000.out).2.1); rintro e w57 ⟨rfl, hb⟩; have n0_ := Aside0.mk (Kd.R_below (qrf6 HO_5.out) hb); have n1_ := Aside0.mk (Kd.R_below (qrf6 HO_107000.out) hb); have n2_ := Aside0.mk (blk_below (g := gb105) (o := .cells #[.int .i64 (wrap64 (1 + (Int.tmod t102 4))), .int .i64 (wrap64 (1 + (Int.tmod t103 20))), .int .i64 (wrap64 (1 + (Int.tmod t104 20)))] 40 (0, 0)) (qbf6 BK105.out) hb); have n3_ := Aside0.mk (blk_below (g := gb106) (o := .cells #[.slice Ao56 x107000_1.length co56, .int .i64 x107001_1] 30 (0, 0)) (qbf6 BK106.out) hb); have n4_ := Aside0.mk (below_step (qw2f6 HB.out GE105.out GE106.out) hb); clear HO_5; clear HO_107000; clear BK105; clear BK106; clear HB; have HO_5 := n0_; have HO_107000 := n1_; have BK105 := n2_; have BK106 := n3_; have HB := n4_; clear n0_ n1_ n2_ n3_ n4_; (try clear hb); (try clear hb2); (try clear hk); (try clear hi)) | (go_at_call 27; (with_reducible refine (laws_at.calls _ _ l0 (wrap64 (x8_1 + 1)) t112 _ ?side1 ?side2 A18.out).mono ?_); (case side1 => repeat (first | exact (Kd.C_below HR0.out HB.out) | (with_reducible refine Kd.C_alloc ?_ _) | (with_reducible refine Kd.C_drewN ?_ _) | (with_reducible refine Kd.C_drew ?_))); (case side2 => exact HC0.out); rintro e w' ⟨rfl, ⟨nd, rfl⟩⟩; (try first | exact ⟨rfl, _, World.drewN_drewN _ _ _⟩ | exact ⟨rfl, _, Eq.trans (World.drewN_drewN _ _ _) (congrArg (World.drewN _) (Nat.add_assoc _ _ _))⟩); have hcz58_0 : w57.cell? ⟨gb105, 0, none⟩ = some (.int .i64 (wrap64 (1 + (Int.tmod t102 4)))) := (blk_cell BK105.out 0).trans rfl; have hcz58_1 : w57.cell? ⟨gb105, 1, none⟩ = some (.int .i64 (wrap64 (1 + (Int.tmod t103 20)))) := (blk_cell BK105.out 1).trans rfl; have hcz58_2 : w57.cell? ⟨gb105, 2, none⟩ = some (.int .i64 (wrap64 (1 + (Int.tmod t104 20)))) := (blk_cell BK105.out 2).trans rfl; have hfz58_0 := blk_frozen BK105.out 0; have hfz58_1 := blk_frozen BK105.out 1; have hfz58_2 := blk_frozen BK105.out 2; have hcz59_0 : w57.cell? ⟨gb106, 0, none⟩ = some (.slice Ao56 x107000_1.length co56) := (blk_cell BK106.out 0).trans rfl; have hcz59_1 : w57.cell? ⟨gb106, 1, none⟩ = some (.int .i64 x107001_1) := (blk_cell BK106.out 1).trans rfl; have hfz59_0 := blk_frozen BK106.out 0; have hfz59_1 := blk_frozen BK106.out 1) | (go_at_call 29; (with_reducible refine (impl_LockFail.calls k1 (wrap64 (1 + (Int.tmod t102 4))) (wrap64 (1 + (Int.tmod t103 20))) (wrap64 (1 + (Int.tmod t104 20))) _ _ x107000_1 x107001_1 (wrap64 (x7_1 + (Int.tmod t110 7))) t122 t125 t126 _ ?side1 ?side2 A51.out).mono ?_); (case side1 => repeat (first | exact (Kd.R_reads' HO_107000.out).2.2 | (with_reducible refine Kd.C_alloc ?_ _) | (with_reducible refine Kd.C_drewN ?_ _) | (with_reducible refine Kd.C_drew ?_))); (case side2 => exact (Kd.R_reads' HO_107000.out).2.1); rintro e w60 ⟨v123, rfl, ho0, hb⟩; have n0_ := Aside0.mk (Kd.R_elder' (qrf6 HO_5.out) (Kd.R_base ho0) hb); have n1_ := Aside0.mk (Kd.R_elder' (qrf6 HO_107000.out) (Kd.R_base ho0) hb); have n2_ := Aside0.mk (Kd.R_lower (Kd.R_new' (Kd.R_new' ho0 (Kd.R_lt (qrf6 HO_5.out))) (Kd.R_lt (qrf6 HO_107000.out))) (below_size (qw2f6 HB.out GE105.out GE106.out))); have n3_ := Aside0.mk (blk_below (g := gb105) (o := .cells #[.int .i64 (wrap64 (1 + (Int.tmod t102 4))), .int .i64 (wrap64 (1 + (Int.tmod t103 20))), .int .i64 (wrap64 (1 + (Int.tmod t104 20)))] 40 (0, 0)) (qbf6 BK105.out) hb); have n4_ := Aside0.mk (blk_below (g := gb106) (o := .cells #[.slice Ao56 x107000_1.length co56, .int .i64 x107001_1] 30 (0, 0)) (qbf6 BK106.out) hb); have n5_ := Aside0.mk (below_step (qw2f6 HB.out GE105.out GE106.out) hb); clear HO_5; clear HO_107000; clear BK105; clear BK106; clear HB; have HO_5 := n0_; have HO_107000 := n1_; have HO124 := n2_; have BK105 := n3_; have BK106 := n4_; have HB := n5_; clear n0_ n1_ n2_ n3_ n4_ n5_; (try clear hb); (try clear hb2); (try clear hk); (try clear hi); (try clear ho0)) | ((with_reducible refine gate_dst (N := 11) rfl ?_); refine box_event ?hg (N := 11) ?hd (cs := #[.slice none 0 0, .int .i64 0]) (t := 30) ?hr ?_; (case hd => rfl); (case hg => rfl); (case hr => first | (go_simp; done) | (go_simp; rfl)); intro gb127 hg w61 hbox hb; have n0_ := Aside0.mk (Kd.R_below (qrf6 HO_5.out) hb); have n1_ := Aside0.mk (Kd.R_below (qrf6 HO_107000.out) hb); have n2_ := Aside0.mk (Kd.R_below (qrf6 HO124.out) hb); have n3_ := Aside0.mk (blk_below (g := gb105) (o := .cells #[.int .i64 (wrap64 (1 + (Int.tmod t102 4))), .int .i64 (wrap64 (1 + (Int.tmod t103 20))), .int .i64 (wrap64 (1 + (Int.tmod t104 20)))] 40 (0, 0)) (qbf6 BK105.out) hb); have n4_ := Aside0.mk (blk_below (g := gb106) (o := .cells #[.slice Ao56 x107000_1.length co56, .int .i64 x107001_1] 30 (0, 0)) (qbf6 BK106.out) hb); have n5_ := Aside0.mk (below_step (qw2f6 HB.out GE105.out GE106.out) hb); have n6_ := Aside0.mk (hbox); have n7_ := Aside0.mk ((by rw [hg]; exact (below_size (qw2f6 HB.out GE105.out GE106.out)) : w.heap.size ≤ gb127)); have n8_ := Aside0.mk ((by rw [hg]; exact (below_size (qw2f6 HB.out GE105.out GE106.out)) : w.heap.size ≤ gb127)); have n9_ := Aside0.mk ((by rw [hg]; exact Nat.ne_of_lt (blk_lt (g := gb105) (o := .cells #[.int .i64 (wrap64 (1 + (Int.tmod t102 4))), .int .i64 (wrap64 (1 + (Int.tmod t103 20))), .int .i64 (wrap64 (1 + (Int.tmod t104 20)))] 40 (0, 0)) (qbf6 BK105.out)) : gb105 ≠ gb127)); have n10_ := Aside0.mk ((by rw [hg]; exact Nat.ne_of_gt (blk_lt (g := gb105) (o := .cells #[.int .i64 (wrap64 (1 + (Int.tmod t102 4))), .int .i64 (wrap64 (1 + (Int.tmod t103 20))), .int .i64 (wrap64 (1 + (Int.tmod t104 20)))] 40 (0, 0)) (qbf6 BK105.out)) : gb127 ≠ gb105)); have n11_ := Aside0.mk ((by rw [hg]; exact Nat.ne_of_lt (blk_lt (g := gb106) (o := .cells #[.slice Ao56 x107000_1.length co56, .int .i64 x107001_1] 30 (0, 0)) (qbf6 BK106.out)) : gb106 ≠ gb127)); have n12_ := Aside0.mk ((by rw [hg]; exact Nat.ne_of_gt (blk_lt (g := gb106) (o := .cells #[.slice Ao56 x107000_1.length co56, .int .i64 x107001_1] 30 (0, 0)) (qbf6 BK106.out)) : gb127 ≠ gb106)); clear HO_5; clear HO_107000; clear HO124; clear BK105; clear BK106; clear HB; have HO_5 := n0_; have HO_107000 := n1_; have HO124 := n2_; have BK105 := n3_; have BK106 := n4_; have HB := n5_; have BK127 := n6_; have GW127 := n7_; have GE127 := n8_; have NB105_127 := n9_; have NB127_105 := n10_; have NB106_127 := n11_; have NB127_106 := n12_; clear n0_ n1_ n2_ n3_ n4_ n5_ n6_ n7_ n8_ n9_ n10_ n11_ n12_; clear hb hbox hg; obtain ⟨Ao62, co62, eo62⟩ := Kd.R_slice HO124.out; subst eo62; have hnb63 := NB127_105.out; have hnc63 := NB105_127.out; have hnb64 := NB127_106.out; have hnc64 := NB106_127.out; have hcz65_0 : w61.cell? ⟨gb127, 0, none⟩ = some (.slice none 0 0) := (blk_cell BK127.out 0).trans rfl; have hcz65_1 : w61.cell? ⟨gb127, 1, none⟩ = some (.int .i64 0) := (blk_cell BK127.out 1).trans rfl; have hfz65_0 := blk_frozen BK127.out 0; have hfz65_1 := blk_frozen BK127.out 1; have hcz66_0 : w61.cell? ⟨gb106, 0, none⟩ = some (.slice Ao56 x107000_1.length co56) := (blk_cell BK106.out 0).trans rfl; have hcz66_1 : w61.cell? ⟨gb106, 1, none⟩ = some (.int .i64 x107001_1) := (blk_cell BK106.out 1).trans rfl; have hfz66_0 := blk_frozen BK106.out 0; have hfz66_1 := blk_frozen BK106.out 1))
        repeat (go_quiet (first | (go_at_call 27; (with_reducible refine (laws_at.calls _ _ l0 x8_1 t110 _ ?side1 ?side2 A15.out).mono ?_); (case side1 => repeat (first | exact (Kd.C_below HR0.out HB.out) | (with_reducible refine Kd.C_alloc ?_ _) | (with_reducible refine Kd.C_drewN ?_ _) | (with_reducible refine Kd.C_drew ?_))); (case side2 => exact HC0.out); rintro e w' ⟨rfl, ⟨nd, rfl⟩⟩; (try first | exact ⟨rfl, _, World.drewN_drewN _ _ _⟩ | exact ⟨rfl, _, Eq.trans (World.drewN_drewN _ _ _) (congrArg (World.drewN _) (Nat.add_assoc _ _ _))⟩); have hnb54 := NB106_105.out; have hnc54 := NB105_106.out; have hcz55_0 : wr.cell? ⟨gb106, 0, none⟩ = some (u107000) := (blk_cell BK106.out 0).trans rfl; have hcz55_1 : wr.cell? ⟨gb106, 1, none⟩ = some (.int .i64 x107001_1) := (blk_cell BK106.out 1).trans rfl; have hfz55_0 := blk_frozen BK106.out 0; have hfz55_1 := blk_frozen BK106.out 1; obtain ⟨Ao56, co56, eo56⟩ := Kd.R_slice HO_107000.out; subst eo56) | (go_at_call 22; (with_reducible refine (impl_LockedAt.calls _ _ x107000_1 x107001_1 (wrap64 (x7_1 + (Int.tmod t110 7))) t111 _ ?side1 ?side2 A16.out).mono ?_); (case side1 => repeat (first | exact (Kd.R_reads' HO_107000.out).2.2 | (with_reducible refine Kd.C_alloc ?_ _) | (with_reducible refine Kd.C_drewN ?_ _) | (with_reducible refine Kd.C_drew ?_))); (case side2 => exact (Kd.R_reads' HO_107000.out).2.1); rintro e w57 ⟨rfl, hb⟩; have n0_ := Aside0.mk (Kd.R_below (qrf6 HO_5.out) hb); have n1_ := Aside0.mk (Kd.R_below (qrf6 HO_107000.out) hb); have n2_ := Aside0.mk (blk_below (g := gb105) (o := .cells #[.int .i64 (wrap64 (1 + (Int.tmod t102 4))), .int .i64 (wrap64 (1 + (Int.tmod t103 20))), .int .i64 (wrap64 (1 + (Int.tmod t104 20)))] 40 (0, 0)) (qbf6 BK105.out) hb); have n3_ := Aside0.mk (blk_below (g := gb106) (o := .cells #[.slice Ao56 x107000_1.length co56, .int .i64 x107001_1] 30 (0, 0)) (qbf6 BK106.out) hb); have n4_ := Aside0.mk (below_step (qw2f6 HB.out GE105.out GE106.out) hb); clear HO_5; clear HO_107000; clear BK105; clear BK106; clear HB; have HO_5 := n0_; have HO_107000 := n1_; have BK105 := n2_; have BK106 := n3_; have HB := n4_; clear n0_ n1_ n2_ n3_ n4_; (try clear hb); (try clear hb2); (try clear hk); (try clear hi)) | (go_at_call 27; (with_reducible refine (laws_at.calls _ _ l0 (wrap64 (x8_1 + 1)) t112 _ ?side1 ?side2 A18.out).mono ?_); (case side1 => repeat (first | exact (Kd.C_below HR0.out HB.out) | (with_reducible refine Kd.C_alloc ?_ _) | (with_reducible refine Kd.C_drewN ?_ _) | (with_reducible refine Kd.C_drew ?_))); (case side2 => exact HC0.out); rintro e w' ⟨rfl, ⟨nd, rfl⟩⟩; (try first | exact ⟨rfl, _, World.drewN_drewN _ _ _⟩ | exact ⟨rfl, _, Eq.trans (World.drewN_drewN _ _ _) (congrArg (World.drewN _) (Nat.add_assoc _ _ _))⟩); have hcz58_0 : w57.cell? ⟨gb105, 0, none⟩ = some (.int .i64 (wrap64 (1 + (Int.tmod t102 4)))) := (blk_cell BK105.out 0).trans rfl; have hcz58_1 : w57.cell? ⟨gb105, 1, none⟩ = some (.int .i64 (wrap64 (1 + (Int.tmod t103 20)))) := (blk_cell BK105.out 1).trans rfl; have hcz58_2 : w57.cell? ⟨gb105, 2, none⟩ = some (.int .i64 (wrap64 (1 + (Int.tmod t104 20)))) := (blk_cell BK105.out 2).trans rfl; have hfz58_0 := blk_frozen BK105.out 0; have hfz58_1 := blk_frozen BK105.out 1; have hfz58_2 := blk_frozen BK105.out 2; have hcz59_0 : w57.cell? ⟨gb106, 0, none⟩ = some (.slice Ao56 x107000_1.length co56) := (blk_cell BK106.out 0).trans rfl; have hcz59_1 : w57.cell? ⟨gb106, 1, none⟩ = some (.int .i64 x107001_1) := (blk_cell BK106.out 1).trans rfl; have hfz59_0 := blk_frozen BK106.out 0; have hfz59_1 := blk_frozen BK106.out 1) | (go_at_call 29; (with_reducible refine (impl_LockFail.calls k1 (wrap64 (1 + (Int.tmod t102 4))) (wrap64 (1 + (Int.tmod t103 20))) (wrap64 (1 + (Int.tmod t104 20))) _ _ x107000_1 x107001_1 (wrap64 (x7_1 + (Int.tmod t110 7))) t122 t125 t126 _ ?side1 ?side2 A51.out).mono ?_); (case side1 => repeat (first | exact (Kd.R_reads' HO_107000.out).2.2 | (with_reducible refine Kd.C_alloc ?_ _) | (with_reducible refine Kd.C_drewN ?_ _) | (with_reducible refine Kd.C_drew ?_))); (case side2 => exact (Kd.R_reads' HO_107000.out).2.1); rintro e w60 ⟨v123, rfl, ho0, hb⟩; have n0_ := Aside0.mk (Kd.R_elder' (qrf6 HO_5.out) (Kd.R_base ho0) hb); have n1_ := Aside0.mk (Kd.R_elder' (qrf6 HO_107000.out) (Kd.R_base ho0) hb); have n2_ := Aside0.mk (Kd.R_lower (Kd.R_new' (Kd.R_new' ho0 (Kd.R_lt (qrf6 HO_5.out))) (Kd.R_lt (qrf6 HO_107000.out))) (below_size (qw2f6 HB.out GE105.out GE106.out))); have n3_ := Aside0.mk (blk_below (g := gb105) (o := .cells #[.int .i64 (wrap64 (1 + (Int.tmod t102 4))), .int .i64 (wrap64 (1 + (Int.tmod t103 20))), .int .i64 (wrap64 (1 + (Int.tmod t104 20)))] 40 (0, 0)) (qbf6 BK105.out) hb); have n4_ := Aside0.mk (blk_below (g := gb106) (o := .cells #[.slice Ao56 x107000_1.length co56, .int .i64 x107001_1] 30 (0, 0)) (qbf6 BK106.out) hb); have n5_ := Aside0.mk (below_step (qw2f6 HB.out GE105.out GE106.out) hb); clear HO_5; clear HO_107000; clear BK105; clear BK106; clear HB; have HO_5 := n0_; have HO_107000 := n1_; have HO124 := n2_; have BK105 := n3_; have BK106 := n4_; have HB := n5_; clear n0_ n1_ n2_ n3_ n4_ n5_; (try clear hb); (try clear hb2); (try clear hk); (try clear hi); (try clear ho0)) | ((with_reducible refine gate_dst (N := 11) rfl ?_); refine box_event ?hg (N := 11) ?hd (cs := #[.slice none 0 0, .int .i64 0]) (t := 30) ?hr ?_; (case hd => rfl); (case hg => rfl); (case hr => first | (go_simp; done) | (go_simp; rfl)); intro gb127 hg w61 hbox hb; have n0_ := Aside0.mk (Kd.R_below (qrf6 HO_5.out) hb); have n1_ := Aside0.mk (Kd.R_below (qrf6 HO_107000.out) hb); have n2_ := Aside0.mk (Kd.R_below (qrf6 HO124.out) hb); have n3_ := Aside0.mk (blk_below (g := gb105) (o := .cells #[.int .i64 (wrap64 (1 + (Int.tmod t102 4))), .int .i64 (wrap64 (1 + (Int.tmod t103 20))), .int .i64 (wrap64 (1 + (Int.tmod t104 20)))] 40 (0, 0)) (qbf6 BK105.out) hb); have n4_ := Aside0.mk (blk_below (g := gb106) (o := .cells #[.slice Ao56 x107000_1.length co56, .int .i64 x107001_1] 30 (0, 0)) (qbf6 BK106.out) hb); have n5_ := Aside0.mk (below_step (qw2f6 HB.out GE105.out GE106.out) hb); have n6_ := Aside0.mk (hbox); have n7_ := Aside0.mk ((by rw [hg]; exact (below_size (qw2f6 HB.out GE105.out GE106.out)) : w.heap.size ≤ gb127)); have n8_ := Aside0.mk ((by rw [hg]; exact (below_size (qw2f6 HB.out GE105.out GE106.out)) : w.heap.size ≤ gb127)); have n9_ := Aside0.mk ((by rw [hg]; exact Nat.ne_of_lt (blk_lt (g := gb105) (o := .cells #[.int .i64 (wrap64 (1 + (Int.tmod t102 4))), .int .i64 (wrap64 (1 + (Int.tmod t103 20))), .int .i64 (wrap64 (1 + (Int.tmod t104 20)))] 40 (0, 0)) (qbf6 BK105.out)) : gb105 ≠ gb127)); have n10_ := Aside0.mk ((by rw [hg]; exact Nat.ne_of_gt (blk_lt (g := gb105) (o := .cells #[.int .i64 (wrap64 (1 + (Int.tmod t102 4))), .int .i64 (wrap64 (1 + (Int.tmod t103 20))), .int .i64 (wrap64 (1 + (Int.tmod t104 20)))] 40 (0, 0)) (qbf6 BK105.out)) : gb127 ≠ gb105)); have n11_ := Aside0.mk ((by rw [hg]; exact Nat.ne_of_lt (blk_lt (g := gb106) (o := .cells #[.slice Ao56 x107000_1.length co56, .int .i64 x107001_1] 30 (0, 0)) (qbf6 BK106.out)) : gb106 ≠ gb127)); have n12_ := Aside0.mk ((by rw [hg]; exact Nat.ne_of_gt (blk_lt (g := gb106) (o := .cells #[.slice Ao56 x107000_1.length co56, .int .i64 x107001_1] 30 (0, 0)) (qbf6 BK106.out)) : gb127 ≠ gb106)); clear HO_5; clear HO_107000; clear HO124; clear BK105; clear BK106; clear HB; have HO_5 := n0_; have HO_107000 := n1_; have HO124 := n2_; have BK105 := n3_; have BK106 := n4_; have HB := n5_; have BK127 := n6_; have GW127 := n7_; have GE127 := n8_; have NB105_127 := n9_; have NB127_105 := n10_; have NB106_127 := n11_; have NB127_106 := n12_; clear n0_ n1_ n2_ n3_ n4_ n5_ n6_ n7_ n8_ n9_ n10_ n11_ n12_; clear hb hbox hg; obtain ⟨Ao62, co62, eo62⟩ := Kd.R_slice HO124.out; subst eo62; have hnb63 := NB127_105.out; have hnc63 := NB105_127.out; have hnb64 := NB127_106.out; have hnc64 := NB106_127.out; have hcz65_0 : w61.cell? ⟨gb127, 0, none⟩ = some (.slice none 0 0) := (blk_cell BK127.out 0).trans rfl; have hcz65_1 : w61.cell? ⟨gb127, 1, none⟩ = some (.int .i64 0) := (blk_cell BK127.out 1).trans rfl; have hfz65_0 := blk_frozen BK127.out 0; have hfz65_1 := blk_frozen BK127.out 1; have hcz66_0 : w61.cell? ⟨gb106, 0, none⟩ = some (.slice Ao56 x107000_1.length co56) := (blk_cell BK106.out 0).trans rfl; have hcz66_1 : w61.cell? ⟨gb106, 1, none⟩ = some (.int .i64 x107001_1) := (blk_cell BK106.out 1).trans rfl; have hfz66_0 := blk_frozen BK106.out 0; have hfz66_1 := blk_frozen BK106.out 1)); go_upto_if 83 with (first | (go_at_call 27; (with_reducible refine (laws_at.calls _ _ l0 x8_1 t110 _ ?side1 ?side2 A15.out).mono ?_); (case side1 => repeat (first | exact (Kd.C_below HR0.out HB.out) | (with_reducible refine Kd.C_alloc ?_ _) | (with_reducible refine Kd.C_drewN ?_ _) | (with_reducible refine Kd.C_drew ?_))); (case side2 => exact HC0.out); rintro e w' ⟨rfl, ⟨nd, rfl⟩⟩; (try first | exact ⟨rfl, _, World.drewN_drewN _ _ _⟩ | exact ⟨rfl, _, Eq.trans (World.drewN_drewN _ _ _) (congrArg (World.drewN _) (Nat.add_assoc _ _ _))⟩); have hnb54 := NB106_105.out; have hnc54 := NB105_106.out; have hcz55_0 : wr.cell? ⟨gb106, 0, none⟩ = some (u107000) := (blk_cell BK106.out 0).trans rfl; have hcz55_1 : wr.cell? ⟨gb106, 1, none⟩ = some (.int .i64 x107001_1) := (blk_cell BK106.out 1).trans rfl; have hfz55_0 := blk_frozen BK106.out 0; have hfz55_1 := blk_frozen BK106.out 1; obtain ⟨Ao56, co56, eo56⟩ := Kd.R_slice HO_107000.out; subst eo56) | (go_at_call 22; (with_reducible refine (impl_LockedAt.calls _ _ x107000_1 x107001_1 (wrap64 (x7_1 + (Int.tmod t110 7))) t111 _ ?side1 ?side2 A16.out).mono ?_); (case side1 => repeat (first | exact (Kd.R_reads' HO_107000.out).2.2 | (with_reducible refine Kd.C_alloc ?_ _) | (with_reducible refine Kd.C_drewN ?_ _) | (with_reducible refine Kd.C_drew ?_))); (case side2 => exact (Kd.R_reads' HO_107000.out).2.1); rintro e w57 ⟨rfl, hb⟩; have n0_ := Aside0.mk (Kd.R_below (qrf6 HO_5.out) hb); have n1_ := Aside0.mk (Kd.R_below (qrf6 HO_107000.out) hb); have n2_ := Aside0.mk (blk_below (g := gb105) (o := .cells #[.int .i64 (wrap64 (1 + (Int.tmod t102 4))), .int .i64 (wrap64 (1 + (Int.tmod t103 20))), .int .i64 (wrap64 (1 + (Int.tmod t104 20)))] 40 (0, 0)) (qbf6 BK105.out) hb); have n3_ := Aside0.mk (blk_below (g := gb106) (o := .cells #[.slice Ao56 x107000_1.length co56, .int .i64 x107001_1] 30 (0, 0)) (qbf6 BK106.out) hb); have n4_ := Aside0.mk (below_step (qw2f6 HB.out GE105.out GE106.out) hb); clear HO_5; clear HO_107000; clear BK105; clear BK106; clear HB; have HO_5 := n0_; have HO_107000 := n1_; have BK105 := n2_; have BK106 := n3_; have HB := n4_; clear n0_ n1_ n2_ n3_ n4_; (try clear hb); (try clear hb2); (try clear hk); (try clear hi)) | (go_at_call 27; (with_reducible refine (laws_at.calls _ _ l0 (wrap64 (x8_1 + 1)) t112 _ ?side1 ?side2 A18.out).mono ?_); (case side1 => repeat (first | exact (Kd.C_below HR0.out HB.out) | (with_reducible refine Kd.C_alloc ?_ _) | (with_reducible refine Kd.C_drewN ?_ _) | (with_reducible refine Kd.C_drew ?_))); (case side2 => exact HC0.out); rintro e w' ⟨rfl, ⟨nd, rfl⟩⟩; (try first | exact ⟨rfl, _, World.drewN_drewN _ _ _⟩ | exact ⟨rfl, _, Eq.trans (World.drewN_drewN _ _ _) (congrArg (World.drewN _) (Nat.add_assoc _ _ _))⟩); have hcz58_0 : w57.cell? ⟨gb105, 0, none⟩ = some (.int .i64 (wrap64 (1 + (Int.tmod t102 4)))) := (blk_cell BK105.out 0).trans rfl; have hcz58_1 : w57.cell? ⟨gb105, 1, none⟩ = some (.int .i64 (wrap64 (1 + (Int.tmod t103 20)))) := (blk_cell BK105.out 1).trans rfl; have hcz58_2 : w57.cell? ⟨gb105, 2, none⟩ = some (.int .i64 (wrap64 (1 + (Int.tmod t104 20)))) := (blk_cell BK105.out 2).trans rfl; have hfz58_0 := blk_frozen BK105.out 0; have hfz58_1 := blk_frozen BK105.out 1; have hfz58_2 := blk_frozen BK105.out 2; have hcz59_0 : w57.cell? ⟨gb106, 0, none⟩ = some (.slice Ao56 x107000_1.length co56) := (blk_cell BK106.out 0).trans rfl; have hcz59_1 : w57.cell? ⟨gb106, 1, none⟩ = some (.int .i64 x107001_1) := (blk_cell BK106.out 1).trans rfl; have hfz59_0 := blk_frozen BK106.out 0; have hfz59_1 := blk_frozen BK106.out 1) | (go_at_call 29; (with_reducible refine (impl_LockFail.calls k1 (wrap64 (1 + (Int.tmod t102 4))) (wrap64 (1 + (Int.tmod t103 20))) (wrap64 (1 + (Int.tmod t104 20))) _ _ x107000_1 x107001_1 (wrap64 (x7_1 + (Int.tmod t110 7))) t122 t125 t126 _ ?side1 ?side2 A51.out).mono ?_); (case side1 => repeat (first | exact (Kd.R_reads' HO_107000.out).2.2 | (with_reducible refine Kd.C_alloc ?_ _) | (with_reducible refine Kd.C_drewN ?_ _) | (with_reducible refine Kd.C_drew ?_))); (case side2 => exact (Kd.R_reads' HO_107000.out).2.1); rintro e w60 ⟨v123, rfl, ho0, hb⟩; have n0_ := Aside0.mk (Kd.R_elder' (qrf6 HO_5.out) (Kd.R_base ho0) hb); have n1_ := Aside0.mk (Kd.R_elder' (qrf6 HO_107000.out) (Kd.R_base ho0) hb); have n2_ := Aside0.mk (Kd.R_lower (Kd.R_new' (Kd.R_new' ho0 (Kd.R_lt (qrf6 HO_5.out))) (Kd.R_lt (qrf6 HO_107000.out))) (below_size (qw2f6 HB.out GE105.out GE106.out))); have n3_ := Aside0.mk (blk_below (g := gb105) (o := .cells #[.int .i64 (wrap64 (1 + (Int.tmod t102 4))), .int .i64 (wrap64 (1 + (Int.tmod t103 20))), .int .i64 (wrap64 (1 + (Int.tmod t104 20)))] 40 (0, 0)) (qbf6 BK105.out) hb); have n4_ := Aside0.mk (blk_below (g := gb106) (o := .cells #[.slice Ao56 x107000_1.length co56, .int .i64 x107001_1] 30 (0, 0)) (qbf6 BK106.out) hb); have n5_ := Aside0.mk (below_step (qw2f6 HB.out GE105.out GE106.out) hb); clear HO_5; clear HO_107000; clear BK105; clear BK106; clear HB; have HO_5 := n0_; have HO_107000 := n1_; have HO124 := n2_; have BK105 := n3_; have BK106 := n4_; have HB := n5_; clear n0_ n1_ n2_ n3_ n4_ n5_; (try clear hb); (try clear hb2); (try clear hk); (try clear hi); (try clear ho0)) | ((with_reducible refine gate_dst (N := 11) rfl ?_); refine box_event ?hg (N := 11) ?hd (cs := #[.slice none 0 0, .int .i64 0]) (t := 30) ?hr ?_; (case hd => rfl); (case hg => rfl); (case hr => first | (go_simp; done) | (go_simp; rfl)); intro gb127 hg w61 hbox hb; have n0_ := Aside0.mk (Kd.R_below (qrf6 HO_5.out) hb); have n1_ := Aside0.mk (Kd.R_below (qrf6 HO_107000.out) hb); have n2_ := Aside0.mk (Kd.R_below (qrf6 HO124.out) hb); have n3_ := Aside0.mk (blk_below (g := gb105) (o := .cells #[.int .i64 (wrap64 (1 + (Int.tmod t102 4))), .int .i64 (wrap64 (1 + (Int.tmod t103 20))), .int .i64 (wrap64 (1 + (Int.tmod t104 20)))] 40 (0, 0)) (qbf6 BK105.out) hb); have n4_ := Aside0.mk (blk_below (g := gb106) (o := .cells #[.slice Ao56 x107000_1.length co56, .int .i64 x107001_1] 30 (0, 0)) (qbf6 BK106.out) hb); have n5_ := Aside0.mk (below_step (qw2f6 HB.out GE105.out GE106.out) hb); have n6_ := Aside0.mk (hbox); have n7_ := Aside0.mk ((by rw [hg]; exact (below_size (qw2f6 HB.out GE105.out GE106.out)) : w.heap.size ≤ gb127)); have n8_ := Aside0.mk ((by rw [hg]; exact (below_size (qw2f6 HB.out GE105.out GE106.out)) : w.heap.size ≤ gb127)); have n9_ := Aside0.mk ((by rw [hg]; exact Nat.ne_of_lt (blk_lt (g := gb105) (o := .cells #[.int .i64 (wrap64 (1 + (Int.tmod t102 4))), .int .i64 (wrap64 (1 + (Int.tmod t103 20))), .int .i64 (wrap64 (1 + (Int.tmod t104 20)))] 40 (0, 0)) (qbf6 BK105.out)) : gb105 ≠ gb127)); have n10_ := Aside0.mk ((by rw [hg]; exact Nat.ne_of_gt (blk_lt (g := gb105) (o := .cells #[.int .i64 (wrap64 (1 + (Int.tmod t102 4))), .int .i64 (wrap64 (1 + (Int.tmod t103 20))), .int .i64 (wrap64 (1 + (Int.tmod t104 20)))] 40 (0, 0)) (qbf6 BK105.out)) : gb127 ≠ gb105)); have n11_ := Aside0.mk ((by rw [hg]; exact Nat.ne_of_lt (blk_lt (g := gb106) (o := .cells #[.slice Ao56 x107000_1.length co56, .int .i64 x107001_1] 30 (0, 0)) (qbf6 BK106.out)) : gb106 ≠ gb127)); have n12_ := Aside0.mk ((by rw [hg]; exact Nat.ne_of_gt (blk_lt (g := gb106) (o := .cells #[.slice Ao56 x107000_1.length co56, .int .i64 x107001_1] 30 (0, 0)) (qbf6 BK106.out)) : gb127 ≠ gb106)); clear HO_5; clear HO_107000; clear HO124; clear BK105; clear BK106; clear HB; have HO_5 := n0_; have HO_107000 := n1_; have HO124 := n2_; have BK105 := n3_; have BK106 := n4_; have HB := n5_; have BK127 := n6_; have GW127 := n7_; have GE127 := n8_; have NB105_127 := n9_; have NB127_105 := n10_; have NB106_127 := n11_; have NB127_106 := n12_; clear n0_ n1_ n2_ n3_ n4_ n5_ n6_ n7_ n8_ n9_ n10_ n11_ n12_; clear hb hbox hg; obtain ⟨Ao62, co62, eo62⟩ := Kd.R_slice HO124.out; subst eo62; have hnb63 := NB127_105.out; have hnc63 := NB105_127.out; have hnb64 := NB127_106.out; have hnc64 := NB106_127.out; have hcz65_0 : w61.cell? ⟨gb127, 0, none⟩ = some (.slice none 0 0) := (blk_cell BK127.out 0).trans rfl; have hcz65_1 : w61.cell? ⟨gb127, 1, none⟩ = some (.int .i64 0) := (blk_cell BK127.out 1).trans rfl; have hfz65_0 := blk_frozen BK127.out 0; have hfz65_1 := blk_frozen BK127.out 1; have hcz66_0 : w61.cell? ⟨gb106, 0, none⟩ = some (.slice Ao56 x107000_1.length co56) := (blk_cell BK106.out 0).trans rfl; have hcz66_1 : w61.cell? ⟨gb106, 1, none⟩ = some (.int .i64 x107001_1) := (blk_cell BK106.out 1).trans rfl; have hfz66_0 := blk_frozen BK106.out 0; have hfz66_1 := blk_frozen BK106.out 1)))
        (try simp only [Act.put, List.setIfInBounds_toArray, List.set_cons_zero, List.set_cons_succ])
        go_cut [5, 6] (fun v5 v6 wc => ∃ (kq : Nat) (x5_52 : List Int) (x6_52 : Int), v6 = .int .i64 x6_52 ∧ Aside0 (laws_FnLock.j2 kq l0 x5_52 x6_52 (wrap64 (x7_1 + (Int.tmod t110 7))) x8_1 (wrap64 (1 + (Int.tmod t102 4))) (wrap64 (1 + (Int.tmod t103 20))) (wrap64 (1 + (Int.tmod t104 20))) t122 t125 = some r) ∧ Aside0 (kq ≤ k1) ∧ Aside0 (Kd.R (Kd.int .i64) 3 wc w.heap.size (fun k_ => some k_ ≠ ((.slice Ao62 t122.length co62) : Value).ownBlock ∧ some k_ ≠ ((.slice Ao62 t122.length co62) : Value).ownBlock) v5 x5_52) ∧ Aside0 (Kd.R (Kd.int .i64) 3 wc w.heap.size (fun k_ => some k_ ≠ (v5 : Value).ownBlock) (.slice Ao62 t122.length co62) t122) ∧ Aside0 (Kd.R (Kd.int .i64) 3 wc w.heap.size (fun k_ => some k_ ≠ (v5 : Value).ownBlock) (.slice Ao62 t122.length co62) t122) ∧ Aside0 (wc.heap[gb105]? = some (.cells #[.int .i64 (wrap64 (1 + (Int.tmod t102 4))), .int .i64 (wrap64 (1 + (Int.tmod t103 20))), .int .i64 (wrap64 (1 + (Int.tmod t104 20)))] 40 (0, 0))) ∧ Aside0 (wc.heap[gb106]? = some (.cells #[(.slice Ao62 t122.length co62), .int .i64 t125] 30 (0, 0))) ∧ Aside0 (wc.heap[gb127]? = some (.cells #[(.slice Ao62 t122.length co62), .int .i64 t125] 30 (0, 0))) ∧ Aside0 (Below w.heap.size w wc))
        case first =>
         have H := HC53.out
         clear HC53
         by_cases c67 : t126 = true
         ·
          subst c67
          have H1 : (if x5_1.length < 17592186044416 then (laws_FnLock.l1 k1 l0 (x5_1 ++ [wrap64 (x7_1 + (Int.tmod t110 7))]) x6_1 (wrap64 (x7_1 + (Int.tmod t110 7))) x8_1 0 0 (wrap64 (1 + (Int.tmod t102 4))) (wrap64 (1 + (Int.tmod t103 20))) (wrap64 (1 + (Int.tmod t104 20))) t122 t125) else (none)) = some r := by rw [if_pos rfl] at H; exact H
          clear H
          have H := H1
          clear H1
          by_cases c68 : x5_1.length < 17592186044416
          ·
           rw [if_pos c68] at H
           have LMc68 := Aside0.mk c68
           clear c68
           obtain ⟨y128, hy128⟩ : ∃ y_ : List Int, y_ = (x5_1 ++ [wrap64 (x7_1 + (Int.tmod t110 7))]) := ⟨_, rfl⟩
           replace H : (laws_FnLock.l1 k1 l0 y128 x6_1 (wrap64 (x7_1 + (Int.tmod t110 7))) x8_1 0 0 (wrap64 (1 + (Int.tmod t102 4))) (wrap64 (1 + (Int.tmod t103 20))) (wrap64 (1 + (Int.tmod t104 20))) t122 t125) = some r := by first | (rw [hy128]; with_reducible exact H) | (have H2_ := (Option.bind_some _ _).symm.trans H; rw [hy128]; with_reducible exact H2_) | (have H2_ := (Option.bind_some _ _).symm.trans H; with_reducible exact H2_) | with_reducible exact H | (rw [hy128]; exact H) | exact H
           have Ny128 := Aside0.mk hy128
           clear hy128
           have H' := Aside0.mk H
           clear H
           go_wp2_with (first | ((with_reducible refine gate_builtin (b := .append) (xs := #[.tmp 84, .tmp 86]) rfl ?_); at_builtin; refine Kd.R_append (Kd.int .i64) (w0 := w) w.heap.size rfl (.tmp 84) (.tmp 86) 22 3 (.int .i64 0) 8 rfl Try.underlying22 info3 rfl (by decide) (by omega) u5 x5_1 (wrap64 (x7_1 + (Int.tmod t110 7))) [.int .i64 (wrap64 (x7_1 + (Int.tmod t110 7)))] (fun k_ => some k_ ≠ (.slice Ao56 x107000_1.length co56 : Value).ownBlock ∧ some k_ ≠ (.slice Ao62 t122.length co62 : Value).ownBlock) (fun _ => False) rfl (by first | (go_simp; done) | (go_simp; rfl)) ?aP (fun _ hk => hk.elim) ?aF ?aO ?aB ?aS ?aL ?_; (case aP => exact rfl); (case aB => exact (qw3f6 HB.out GE105.out GE106.out GE127.out)); (case aF => exact (fun k_ hk => ⟨Kd.fresh' (Kd.R_lt (by (with_reducible repeat (first | apply Kd.R_alloc | apply Kd.R_drewN | apply Kd.R_drew)); exact (Kd.R_mono (Kd.R_mono (Kd.R_far (p := ⟨gb106, 1, none⟩) (Kd.R_far (p := ⟨gb106, 0, none⟩) (Kd.R_far (p := ⟨gb127, 1, none⟩) (Kd.R_far (p := ⟨gb127, 0, none⟩) (Kd.R_types (Kd.R_types HO_107000.out BK127.out (by decide)) BK106.out (by decide)) (fun _ hk => hk.1.2) (.slice Ao62 t122.length co62)) (fun _ hk => hk.1.2) (.int .i64 t125)) (fun _ hk => hk.2) (.slice Ao62 t122.length co62)) (fun _ hk => hk.2) (.int .i64 t125)) (fun _ h_ => h_.1)) (fun _ h_ => h_.1)))) k_ hk, Kd.fresh' (Kd.R_lt (by (with_reducible repeat (first | apply Kd.R_alloc | apply Kd.R_drewN | apply Kd.R_drew)); exact (Kd.R_mono (Kd.R_mono (Kd.R_far (p := ⟨gb106, 1, none⟩) (Kd.R_far (p := ⟨gb106, 0, none⟩) (Kd.R_far (p := ⟨gb127, 1, none⟩) (Kd.R_far (p := ⟨gb127, 0, none⟩) (Kd.R_types (Kd.R_types HO124.out BK127.out (by decide)) BK106.out (by decide)) (fun _ hk => hk.1.2) (.slice Ao62 t122.length co62)) (fun _ hk => hk.1.2) (.int .i64 t125)) (fun _ hk => hk.2) (.slice Ao62 t122.length co62)) (fun _ hk => hk.2) (.int .i64 t125)) (fun _ h_ => h_.1)) (fun _ h_ => h_.1)))) k_ hk⟩)); (case aO => exact (by (with_reducible repeat (first | apply Kd.R_alloc | apply Kd.R_drewN | apply Kd.R_drew)); exact Kd.R_mono (Kd.R_far (p := ⟨gb106, 1, none⟩) (Kd.R_far (p := ⟨gb106, 0, none⟩) (Kd.R_far (p := ⟨gb127, 1, none⟩) (Kd.R_far (p := ⟨gb127, 0, none⟩) (Kd.R_types (Kd.R_types HO_5.out BK127.out (by decide)) BK106.out (by decide)) (fun _ hk => hk.1.2) (.slice Ao62 t122.length co62)) (fun _ hk => hk.1.2) (.int .i64 t125)) (fun _ hk => hk.2) (.slice Ao62 t122.length co62)) (fun _ hk => hk.2) (.int .i64 t125)) (fun _ hk => ⟨hk.1.1.1, hk.1.1.2⟩))); (case aS => exact (below_size (qw3f6 HB.out GE105.out GE106.out GE127.out))); (case aL => have := LMc68.out; omega); intro v129 w69 ho hb hg hat; rw [← Ny128.out] at ho; have n0_ := Aside0.mk (Kd.R_after (ok := (fun k_ => some k_ ≠ (.slice Ao62 t122.length co62 : Value).ownBlock)) (by (with_reducible repeat (first | apply Kd.R_alloc | apply Kd.R_drewN | apply Kd.R_drew)); exact Kd.R_mono (Kd.R_far (p := ⟨gb106, 1, none⟩) (Kd.R_far (p := ⟨gb106, 0, none⟩) (Kd.R_far (p := ⟨gb127, 1, none⟩) (Kd.R_far (p := ⟨gb127, 0, none⟩) (Kd.R_types (Kd.R_types HO_107000.out BK127.out (by decide)) BK106.out (by decide)) (fun _ hk => hk.1.2) (.slice Ao62 t122.length co62)) (fun _ hk => hk.1.2) (.int .i64 t125)) (fun _ hk => hk.2) (.slice Ao62 t122.length co62)) (fun _ hk => hk.2) (.int .i64 t125)) (fun _ hk => ⟨hk.1.1.2, hk.1.1.1⟩)) hg hat); have n1_ := Aside0.mk (blk_grown (g := gb105) (o := .cells #[.int .i64 (wrap64 (1 + (Int.tmod t102 4))), .int .i64 (wrap64 (1 + (Int.tmod t103 20))), .int .i64 (wrap64 (1 + (Int.tmod t104 20)))] 40 (0, 0)) (by (with_reducible repeat (first | refine blk_drewN ?_ _ | refine blk_drew ?_ | refine blk_alloc ?_ _)); refine blk_far ?_ NB105_106.out _; (with_reducible repeat (first | refine blk_drewN ?_ _ | refine blk_drew ?_ | refine blk_alloc ?_ _)); refine blk_far ?_ NB105_106.out _; (with_reducible repeat (first | refine blk_drewN ?_ _ | refine blk_drew ?_ | refine blk_alloc ?_ _)); refine blk_far ?_ NB105_127.out _; (with_reducible repeat (first | refine blk_drewN ?_ _ | refine blk_drew ?_ | refine blk_alloc ?_ _)); refine blk_far ?_ NB105_127.out _; (with_reducible repeat (first | refine blk_drewN ?_ _ | refine blk_drew ?_ | refine blk_alloc ?_ _)); exact BK105.out) hg (Kd.R_ne HO_5.out BK105.out (by decide))); have n2_ := Aside0.mk (blk_grown (g := gb106) (o := .cells #[.slice Ao62 t122.length co62, .int .i64 t125] 30 (0, 0)) (by (with_reducible repeat (first | refine blk_drewN ?_ _ | refine blk_drew ?_ | refine blk_alloc ?_ _)); refine blk_put (cs := #[.slice Ao62 t122.length co62, .int .i64 x107001_1]) ?_ 1 _ rfl; (with_reducible repeat (first | refine blk_drewN ?_ _ | refine blk_drew ?_ | refine blk_alloc ?_ _)); refine blk_put (cs := #[.slice Ao56 x107000_1.length co56, .int .i64 x107001_1]) ?_ 0 _ rfl; (with_reducible repeat (first | refine blk_drewN ?_ _ | refine blk_drew ?_ | refine blk_alloc ?_ _)); refine blk_far ?_ NB106_127.out _; (with_reducible repeat (first | refine blk_drewN ?_ _ | refine blk_drew ?_ | refine blk_alloc ?_ _)); refine blk_far ?_ NB106_127.out _; (with_reducible repeat (first | refine blk_drewN ?_ _ | refine blk_drew ?_ | refine blk_alloc ?_ _)); exact BK106.out) hg (Kd.R_ne HO_5.out BK106.out (by decide))); have n3_ := Aside0.mk (Kd.R_after (ok := (fun k_ => some k_ ≠ (.slice Ao56 x107000_1.length co56 : Value).ownBlock)) (by (with_reducible repeat (first | apply Kd.R_alloc | apply Kd.R_drewN | apply Kd.R_drew)); exact Kd.R_mono (Kd.R_far (p := ⟨gb106, 1, none⟩) (Kd.R_far (p := ⟨gb106, 0, none⟩) (Kd.R_far (p := ⟨gb127, 1, none⟩) (Kd.R_far (p := ⟨gb127, 0, none⟩) (Kd.R_types (Kd.R_types HO124.out BK127.out (by decide)) BK106.out (by decide)) (fun _ hk => hk.1.2) (.slice Ao62 t122.length co62)) (fun _ hk => hk.1.2) (.int .i64 t125)) (fun _ hk => hk.2) (.slice Ao62 t122.length co62)) (fun _ hk => hk.2) (.int .i64 t125)) (fun _ hk => ⟨hk.1.1.2, hk.1.1.1.2⟩)) hg hat); have n4_ := Aside0.mk (blk_grown (g := gb127) (o := .cells #[.slice Ao62 t122.length co62, .int .i64 t125] 30 (0, 0)) (by (with_reducible repeat (first | refine blk_drewN ?_ _ | refine blk_drew ?_ | refine blk_alloc ?_ _)); refine blk_far ?_ NB127_106.out _; (with_reducible repeat (first | refine blk_drewN ?_ _ | refine blk_drew ?_ | refine blk_alloc ?_ _)); refine blk_far ?_ NB127_106.out _; (with_reducible repeat (first | refine blk_drewN ?_ _ | refine blk_drew ?_ | refine blk_alloc ?_ _)); refine blk_put (cs := #[.slice Ao62 t122.length co62, .int .i64 0]) ?_ 1 _ rfl; (with_reducible repeat (first | refine blk_drewN ?_ _ | refine blk_drew ?_ | refine blk_alloc ?_ _)); refine blk_put (cs := #[.slice none 0 0, .int .i64 0]) ?_ 0 _ rfl; (with_reducible repeat (first | refine blk_drewN ?_ _ | refine blk_drew ?_ | refine blk_alloc ?_ _)); exact BK127.out) hg (Kd.R_ne HO_5.out BK127.out (by decide))); have n5_ := Aside0.mk (hb); have n6_ := Aside0.mk (ho); clear HO_107000; clear BK105; clear BK106; clear HO124; clear BK127; clear HB; clear HO_5; have HO_107000 := n0_; have BK105 := n1_; have BK106 := n2_; have HO124 := n3_; have BK127 := n4_; have HB := n5_; have HO130 := n6_; clear n0_ n1_ n2_ n3_ n4_ n5_ n6_; clear ho hb hg hat))
           repeat (go_quiet (first | ((with_reducible refine gate_builtin (b := .append) (xs := #[.tmp 84, .tmp 86]) rfl ?_); at_builtin; refine Kd.R_append (Kd.int .i64) (w0 := w) w.heap.size rfl (.tmp 84) (.tmp 86) 22 3 (.int .i64 0) 8 rfl Try.underlying22 info3 rfl (by decide) (by omega) u5 x5_1 (wrap64 (x7_1 + (Int.tmod t110 7))) [.int .i64 (wrap64 (x7_1 + (Int.tmod t110 7)))] (fun k_ => some k_ ≠ (.slice Ao56 x107000_1.length co56 : Value).ownBlock ∧ some k_ ≠ (.slice Ao62 t122.length co62 : Value).ownBlock) (fun _ => False) rfl (by first | (go_simp; done) | (go_simp; rfl)) ?aP (fun _ hk => hk.elim) ?aF ?aO ?aB ?aS ?aL ?_; (case aP => exact rfl); (case aB => exact (qw3f6 HB.out GE105.out GE106.out GE127.out)); (case aF => exact (fun k_ hk => ⟨Kd.fresh' (Kd.R_lt (by (with_reducible repeat (first | apply Kd.R_alloc | apply Kd.R_drewN | apply Kd.R_drew)); exact (Kd.R_mono (Kd.R_mono (Kd.R_far (p := ⟨gb106, 1, none⟩) (Kd.R_far (p := ⟨gb106, 0, none⟩) (Kd.R_far (p := ⟨gb127, 1, none⟩) (Kd.R_far (p := ⟨gb127, 0, none⟩) (Kd.R_types (Kd.R_types HO_107000.out BK127.out (by decide)) BK106.out (by decide)) (fun _ hk => hk.1.2) (.slice Ao62 t122.length co62)) (fun _ hk => hk.1.2) (.int .i64 t125)) (fun _ hk => hk.2) (.slice Ao62 t122.length co62)) (fun _ hk => hk.2) (.int .i64 t125)) (fun _ h_ => h_.1)) (fun _ h_ => h_.1)))) k_ hk, Kd.fresh' (Kd.R_lt (by (with_reducible repeat (first | apply Kd.R_alloc | apply Kd.R_drewN | apply Kd.R_drew)); exact (Kd.R_mono (Kd.R_mono (Kd.R_far (p := ⟨gb106, 1, none⟩) (Kd.R_far (p := ⟨gb106, 0, none⟩) (Kd.R_far (p := ⟨gb127, 1, none⟩) (Kd.R_far (p := ⟨gb127, 0, none⟩) (Kd.R_types (Kd.R_types HO124.out BK127.out (by decide)) BK106.out (by decide)) (fun _ hk => hk.1.2) (.slice Ao62 t122.length co62)) (fun _ hk => hk.1.2) (.int .i64 t125)) (fun _ hk => hk.2) (.slice Ao62 t122.length co62)) (fun _ hk => hk.2) (.int .i64 t125)) (fun _ h_ => h_.1)) (fun _ h_ => h_.1)))) k_ hk⟩)); (case aO => exact (by (with_reducible repeat (first | apply Kd.R_alloc | apply Kd.R_drewN | apply Kd.R_drew)); exact Kd.R_mono (Kd.R_far (p := ⟨gb106, 1, none⟩) (Kd.R_far (p := ⟨gb106, 0, none⟩) (Kd.R_far (p := ⟨gb127, 1, none⟩) (Kd.R_far (p := ⟨gb127, 0, none⟩) (Kd.R_types (Kd.R_types HO_5.out BK127.out (by decide)) BK106.out (by decide)) (fun _ hk => hk.1.2) (.slice Ao62 t122.length co62)) (fun _ hk => hk.1.2) (.int .i64 t125)) (fun _ hk => hk.2) (.slice Ao62 t122.length co62)) (fun _ hk => hk.2) (.int .i64 t125)) (fun _ hk => ⟨hk.1.1.1, hk.1.1.2⟩))); (case aS => exact (below_size (qw3f6 HB.out GE105.out GE106.out GE127.out))); (case aL => have := LMc68.out; omega); intro v129 w69 ho hb hg hat; rw [← Ny128.out] at ho; have n0_ := Aside0.mk (Kd.R_after (ok := (fun k_ => some k_ ≠ (.slice Ao62 t122.length co62 : Value).ownBlock)) (by (with_reducible repeat (first | apply Kd.R_alloc | apply Kd.R_drewN | apply Kd.R_drew)); exact Kd.R_mono (Kd.R_far (p := ⟨gb106, 1, none⟩) (Kd.R_far (p := ⟨gb106, 0, none⟩) (Kd.R_far (p := ⟨gb127, 1, none⟩) (Kd.R_far (p := ⟨gb127, 0, none⟩) (Kd.R_types (Kd.R_types HO_107000.out BK127.out (by decide)) BK106.out (by decide)) (fun _ hk => hk.1.2) (.slice Ao62 t122.length co62)) (fun _ hk => hk.1.2) (.int .i64 t125)) (fun _ hk => hk.2) (.slice Ao62 t122.length co62)) (fun _ hk => hk.2) (.int .i64 t125)) (fun _ hk => ⟨hk.1.1.2, hk.1.1.1⟩)) hg hat); have n1_ := Aside0.mk (blk_grown (g := gb105) (o := .cells #[.int .i64 (wrap64 (1 + (Int.tmod t102 4))), .int .i64 (wrap64 (1 + (Int.tmod t103 20))), .int .i64 (wrap64 (1 + (Int.tmod t104 20)))] 40 (0, 0)) (by (with_reducible repeat (first | refine blk_drewN ?_ _ | refine blk_drew ?_ | refine blk_alloc ?_ _)); refine blk_far ?_ NB105_106.out _; (with_reducible repeat (first | refine blk_drewN ?_ _ | refine blk_drew ?_ | refine blk_alloc ?_ _)); refine blk_far ?_ NB105_106.out _; (with_reducible repeat (first | refine blk_drewN ?_ _ | refine blk_drew ?_ | refine blk_alloc ?_ _)); refine blk_far ?_ NB105_127.out _; (with_reducible repeat (first | refine blk_drewN ?_ _ | refine blk_drew ?_ | refine blk_alloc ?_ _)); refine blk_far ?_ NB105_127.out _; (with_reducible repeat (first | refine blk_drewN ?_ _ | refine blk_drew ?_ | refine blk_alloc ?_ _)); exact BK105.out) hg (Kd.R_ne HO_5.out BK105.out (by decide))); have n2_ := Aside0.mk (blk_grown (g := gb106) (o := .cells #[.slice Ao62 t122.length co62, .int .i64 t125] 30 (0, 0)) (by (with_reducible repeat (first | refine blk_drewN ?_ _ | refine blk_drew ?_ | refine blk_alloc ?_ _)); refine blk_put (cs := #[.slice Ao62 t122.length co62, .int .i64 x107001_1]) ?_ 1 _ rfl; (with_reducible repeat (first | refine blk_drewN ?_ _ | refine blk_drew ?_ | refine blk_alloc ?_ _)); refine blk_put (cs := #[.slice Ao56 x107000_1.length co56, .int .i64 x107001_1]) ?_ 0 _ rfl; (with_reducible repeat (first | refine blk_drewN ?_ _ | refine blk_drew ?_ | refine blk_alloc ?_ _)); refine blk_far ?_ NB106_127.out _; (with_reducible repeat (first | refine blk_drewN ?_ _ | refine blk_drew ?_ | refine blk_alloc ?_ _)); refine blk_far ?_ NB106_127.out _; (with_reducible repeat (first | refine blk_drewN ?_ _ | refine blk_drew ?_ | refine blk_alloc ?_ _)); exact BK106.out) hg (Kd.R_ne HO_5.out BK106.out (by decide))); have n3_ := Aside0.mk (Kd.R_after (ok := (fun k_ => some k_ ≠ (.slice Ao56 x107000_1.length co56 : Value).ownBlock)) (by (with_reducible repeat (first | apply Kd.R_alloc | apply Kd.R_drewN | apply Kd.R_drew)); exact Kd.R_mono (Kd.R_far (p := ⟨gb106, 1, none⟩) (Kd.R_far (p := ⟨gb106, 0, none⟩) (Kd.R_far (p := ⟨gb127, 1, none⟩) (Kd.R_far (p := ⟨gb127, 0, none⟩) (Kd.R_types (Kd.R_types HO124.out BK127.out (by decide)) BK106.out (by decide)) (fun _ hk => hk.1.2) (.slice Ao62 t122.length co62)) (fun _ hk => hk.1.2) (.int .i64 t125)) (fun _ hk => hk.2) (.slice Ao62 t122.length co62)) (fun _ hk => hk.2) (.int .i64 t125)) (fun _ hk => ⟨hk.1.1.2, hk.1.1.1.2⟩)) hg hat); have n4_ := Aside0.mk (blk_grown (g := gb127) (o := .cells #[.slice Ao62 t122.length co62, .int .i64 t125] 30 (0, 0)) (by (with_reducible repeat (first | refine blk_drewN ?_ _ | refine blk_drew ?_ | refine blk_alloc ?_ _)); refine blk_far ?_ NB127_106.out _; (with_reducible repeat (first | refine blk_drewN ?_ _ | refine blk_drew ?_ | refine blk_alloc ?_ _)); refine blk_far ?_ NB127_106.out _; (with_reducible repeat (first | refine blk_drewN ?_ _ | refine blk_drew ?_ | refine blk_alloc ?_ _)); refine blk_put (cs := #[.slice Ao62 t122.length co62, .int .i64 0]) ?_ 1 _ rfl; (with_reducible repeat (first | refine blk_drewN ?_ _ | refine blk_drew ?_ | refine blk_alloc ?_ _)); refine blk_put (cs := #[.slice none 0 0, .int .i64 0]) ?_ 0 _ rfl; (with_reducible repeat (first | refine blk_drewN ?_ _ | refine blk_drew ?_ | refine blk_alloc ?_ _)); exact BK127.out) hg (Kd.R_ne HO_5.out BK127.out (by decide))); have n5_ := Aside0.mk (hb); have n6_ := Aside0.mk (ho); clear HO_107000; clear BK105; clear BK106; clear HO124; clear BK127; clear HB; clear HO_5; have HO_107000 := n0_; have BK105 := n1_; have BK106 := n2_; have HO124 := n3_; have BK127 := n4_; have HB := n5_; have HO130 := n6_; clear n0_ n1_ n2_ n3_ n4_ n5_ n6_; clear ho hb hg hat)); try go_wp2_with (first | ((with_reducible refine gate_builtin (b := .append) (xs := #[.tmp 84, .tmp 86]) rfl ?_); at_builtin; refine Kd.R_append (Kd.int .i64) (w0 := w) w.heap.size rfl (.tmp 84) (.tmp 86) 22 3 (.int .i64 0) 8 rfl Try.underlying22 info3 rfl (by decide) (by omega) u5 x5_1 (wrap64 (x7_1 + (Int.tmod t110 7))) [.int .i64 (wrap64 (x7_1 + (Int.tmod t110 7)))] (fun k_ => some k_ ≠ (.slice Ao56 x107000_1.length co56 : Value).ownBlock ∧ some k_ ≠ (.slice Ao62 t122.length co62 : Value).ownBlock) (fun _ => False) rfl (by first | (go_simp; done) | (go_simp; rfl)) ?aP (fun _ hk => hk.elim) ?aF ?aO ?aB ?aS ?aL ?_; (case aP => exact rfl); (case aB => exact (qw3f6 HB.out GE105.out GE106.out GE127.out)); (case aF => exact (fun k_ hk => ⟨Kd.fresh' (Kd.R_lt (by (with_reducible repeat (first | apply Kd.R_alloc | apply Kd.R_drewN | apply Kd.R_drew)); exact (Kd.R_mono (Kd.R_mono (Kd.R_far (p := ⟨gb106, 1, none⟩) (Kd.R_far (p := ⟨gb106, 0, none⟩) (Kd.R_far (p := ⟨gb127, 1, none⟩) (Kd.R_far (p := ⟨gb127, 0, none⟩) (Kd.R_types (Kd.R_types HO_107000.out BK127.out (by decide)) BK106.out (by decide)) (fun _ hk => hk.1.2) (.slice Ao62 t122.length co62)) (fun _ hk => hk.1.2) (.int .i64 t125)) (fun _ hk => hk.2) (.slice Ao62 t122.length co62)) (fun _ hk => hk.2) (.int .i64 t125)) (fun _ h_ => h_.1)) (fun _ h_ => h_.1)))) k_ hk, Kd.fresh' (Kd.R_lt (by (with_reducible repeat (first | apply Kd.R_alloc | apply Kd.R_drewN | apply Kd.R_drew)); exact (Kd.R_mono (Kd.R_mono (Kd.R_far (p := ⟨gb106, 1, none⟩) (Kd.R_far (p := ⟨gb106, 0, none⟩) (Kd.R_far (p := ⟨gb127, 1, none⟩) (Kd.R_far (p := ⟨gb127, 0, none⟩) (Kd.R_types (Kd.R_types HO124.out BK127.out (by decide)) BK106.out (by decide)) (fun _ hk => hk.1.2) (.slice Ao62 t122.length co62)) (fun _ hk => hk.1.2) (.int .i64 t125)) (fun _ hk => hk.2) (.slice Ao62 t122.length co62)) (fun _ hk => hk.2) (.int .i64 t125)) (fun _ h_ => h_.1)) (fun _ h_ => h_.1)))) k_ hk⟩)); (case aO => exact (by (with_reducible repeat (first | apply Kd.R_alloc | apply Kd.R_drewN | apply Kd.R_drew)); exact Kd.R_mono (Kd.R_far (p := ⟨gb106, 1, none⟩) (Kd.R_far (p := ⟨gb106, 0, none⟩) (Kd.R_far (p := ⟨gb127, 1, none⟩) (Kd.R_far (p := ⟨gb127, 0, none⟩) (Kd.R_types (Kd.R_types HO_5.out BK127.out (by decide)) BK106.out (by decide)) (fun _ hk => hk.1.2) (.slice Ao62 t122.length co62)) (fun _ hk => hk.1.2) (.int .i64 t125)) (fun _ hk => hk.2) (.slice Ao62 t122.length co62)) (fun _ hk => hk.2) (.int .i64 t125)) (fun _ hk => ⟨hk.1.1.1, hk.1.1.2⟩))); (case aS => exact (below_size (qw3f6 HB.out GE105.out GE106.out GE127.out))); (case aL => have := LMc68.out; omega); intro v129 w69 ho hb hg hat; rw [← Ny128.out] at ho; have n0_ := Aside0.mk (Kd.R_after (ok := (fun k_ => some k_ ≠ (.slice Ao62 t122.length co62 : Value).ownBlock)) (by (with_reducible repeat (first | apply Kd.R_alloc | apply Kd.R_drewN | apply Kd.R_drew)); exact Kd.R_mono (Kd.R_far (p := ⟨gb106, 1, none⟩) (Kd.R_far (p := ⟨gb106, 0, none⟩) (Kd.R_far (p := ⟨gb127, 1, none⟩) (Kd.R_far (p := ⟨gb127, 0, none⟩) (Kd.R_types (Kd.R_types HO_107000.out BK127.out (by decide)) BK106.out (by decide)) (fun _ hk => hk.1.2) (.slice Ao62 t122.length co62)) (fun _ hk => hk.1.2) (.int .i64 t125)) (fun _ hk => hk.2) (.slice Ao62 t122.length co62)) (fun _ hk => hk.2) (.int .i64 t125)) (fun _ hk => ⟨hk.1.1.2, hk.1.1.1⟩)) hg hat); have n1_ := Aside0.mk (blk_grown (g := gb105) (o := .cells #[.int .i64 (wrap64 (1 + (Int.tmod t102 4))), .int .i64 (wrap64 (1 + (Int.tmod t103 20))), .int .i64 (wrap64 (1 + (Int.tmod t104 20)))] 40 (0, 0)) (by (with_reducible repeat (first | refine blk_drewN ?_ _ | refine blk_drew ?_ | refine blk_alloc ?_ _)); refine blk_far ?_ NB105_106.out _; (with_reducible repeat (first | refine blk_drewN ?_ _ | refine blk_drew ?_ | refine blk_alloc ?_ _)); refine blk_far ?_ NB105_106.out _; (with_reducible repeat (first | refine blk_drewN ?_ _ | refine blk_drew ?_ | refine blk_alloc ?_ _)); refine blk_far ?_ NB105_127.out _; (with_reducible repeat (first | refine blk_drewN ?_ _ | refine blk_drew ?_ | refine blk_alloc ?_ _)); refine blk_far ?_ NB105_127.out _; (with_reducible repeat (first | refine blk_drewN ?_ _ | refine blk_drew ?_ | refine blk_alloc ?_ _)); exact BK105.out) hg (Kd.R_ne HO_5.out BK105.out (by decide))); have n2_ := Aside0.mk (blk_grown (g := gb106) (o := .cells #[.slice Ao62 t122.length co62, .int .i64 t125] 30 (0, 0)) (by (with_reducible repeat (first | refine blk_drewN ?_ _ | refine blk_drew ?_ | refine blk_alloc ?_ _)); refine blk_put (cs := #[.slice Ao62 t122.length co62, .int .i64 x107001_1]) ?_ 1 _ rfl; (with_reducible repeat (first | refine blk_drewN ?_ _ | refine blk_drew ?_ | refine blk_alloc ?_ _)); refine blk_put (cs := #[.slice Ao56 x107000_1.length co56, .int .i64 x107001_1]) ?_ 0 _ rfl; (with_reducible repeat (first | refine blk_drewN ?_ _ | refine blk_drew ?_ | refine blk_alloc ?_ _)); refine blk_far ?_ NB106_127.out _; (with_reducible repeat (first | refine blk_drewN ?_ _ | refine blk_drew ?_ | refine blk_alloc ?_ _)); refine blk_far ?_ NB106_127.out _; (with_reducible repeat (first | refine blk_drewN ?_ _ | refine blk_drew ?_ | refine blk_alloc ?_ _)); exact BK106.out) hg (Kd.R_ne HO_5.out BK106.out (by decide))); have n3_ := Aside0.mk (Kd.R_after (ok := (fun k_ => some k_ ≠ (.slice Ao56 x107000_1.length co56 : Value).ownBlock)) (by (with_reducible repeat (first | apply Kd.R_alloc | apply Kd.R_drewN | apply Kd.R_drew)); exact Kd.R_mono (Kd.R_far (p := ⟨gb106, 1, none⟩) (Kd.R_far (p := ⟨gb106, 0, none⟩) (Kd.R_far (p := ⟨gb127, 1, none⟩) (Kd.R_far (p := ⟨gb127, 0, none⟩) (Kd.R_types (Kd.R_types HO124.out BK127.out (by decide)) BK106.out (by decide)) (fun _ hk => hk.1.2) (.slice Ao62 t122.length co62)) (fun _ hk => hk.1.2) (.int .i64 t125)) (fun _ hk => hk.2) (.slice Ao62 t122.length co62)) (fun _ hk => hk.2) (.int .i64 t125)) (fun _ hk => ⟨hk.1.1.2, hk.1.1.1.2⟩)) hg hat); have n4_ := Aside0.mk (blk_grown (g := gb127) (o := .cells #[.slice Ao62 t122.length co62, .int .i64 t125] 30 (0, 0)) (by (with_reducible repeat (first | refine blk_drewN ?_ _ | refine blk_drew ?_ | refine blk_alloc ?_ _)); refine blk_far ?_ NB127_106.out _; (with_reducible repeat (first | refine blk_drewN ?_ _ | refine blk_drew ?_ | refine blk_alloc ?_ _)); refine blk_far ?_ NB127_106.out _; (with_reducible repeat (first | refine blk_drewN ?_ _ | refine blk_drew ?_ | refine blk_alloc ?_ _)); refine blk_put (cs := #[.slice Ao62 t122.length co62, .int .i64 0]) ?_ 1 _ rfl; (with_reducible repeat (first | refine blk_drewN ?_ _ | refine blk_drew ?_ | refine blk_alloc ?_ _)); refine blk_put (cs := #[.slice none 0 0, .int .i64 0]) ?_ 0 _ rfl; (with_reducible repeat (first | refine blk_drewN ?_ _ | refine blk_drew ?_ | refine blk_alloc ?_ _)); exact BK127.out) hg (Kd.R_ne HO_5.out BK127.out (by decide))); have n5_ := Aside0.mk (hb); have n6_ := Aside0.mk (ho); clear HO_107000; clear BK105; clear BK106; clear HO124; clear BK127; clear HB; clear HO_5; have HO_107000 := n0_; have BK105 := n1_; have BK106 := n2_; have HO124 := n3_; have BK127 := n4_; have HB := n5_; have HO130 := n6_; clear n0_ n1_ n2_ n3_ n4_ n5_ n6_; clear ho hb hg hat)))
           go_loopg [13, 14] k1 (fun kq v13 v14 w' => ∃ (x13_2 : Int) (x14_2 : Int), v13 = .int .i64 x13_2 ∧ v14 = .int .i64 x14_2 ∧ Aside0 (laws_FnLock.l1 kq l0 y128 x6_1 (wrap64 (x7_1 + (Int.tmod t110 7))) x8_1 x13_2 x14_2 (wrap64 (1 + (Int.tmod t102 4))) (wrap64 (1 + (Int.tmod t103 20))) (wrap64 (1 + (Int.tmod t104 20))) t122 t125 = some r) ∧ Aside0 (kq ≤ k1) ∧ Aside0 (Kd.R (Kd.int .i64) 3 w' w.heap.size (fun k_ => some k_ ≠ ((.slice Ao62 t122.length co62) : Value).ownBlock ∧ some k_ ≠ ((.slice Ao62 t122.length co62) : Value).ownBlock) v129 y128) ∧ Aside0 (Kd.R (Kd.int .i64) 3 w' w.heap.size (fun k_ => some k_ ≠ (v129 : Value).ownBlock) (.slice Ao62 t122.length co62) t122) ∧ Aside0 (Kd.R (Kd.int .i64) 3 w' w.heap.size (fun k_ => some k_ ≠ (v129 : Value).ownBlock) (.slice Ao62 t122.length co62) t122) ∧ Aside0 (w'.heap[gb105]? = some (.cells #[.int .i64 (wrap64 (1 + (Int.tmod t102 4))), .int .i64 (wrap64 (1 + (Int.tmod t103 20))), .int .i64 (wrap64 (1 + (Int.tmod t104 20)))] 40 (0, 0))) ∧ Aside0 (w'.heap[gb106]? = some (.cells #[(.slice Ao62 t122.length co62), .int .i64 t125] 30 (0, 0))) ∧ Aside0 (w'.heap[gb127]? = some (.cells #[(.slice Ao62 t122.length co62), .int .i64 t125] 30 (0, 0))) ∧ Aside0 (Below w.heap.size w w'))
           case atStart => exact ⟨(0), (0), (by first | rfl | (simp; done) | (simp [*]; done)), (by first | rfl | (simp; done) | (simp [*]; done)), H', ⟨Nat.le_refl _⟩, ⟨by (with_reducible repeat (first | apply Kd.R_alloc | apply Kd.R_drewN | apply Kd.R_drew)); exact Kd.R_mono HO130.out (fun _ hk => ⟨hk.2, hk.2⟩)⟩, ⟨by (with_reducible repeat (first | apply Kd.R_alloc | apply Kd.R_drewN | apply Kd.R_drew)); exact Kd.R_mono HO124.out (fun _ hk => hk.2)⟩, ⟨by (with_reducible repeat (first | apply Kd.R_alloc | apply Kd.R_drewN | apply Kd.R_drew)); exact Kd.R_mono HO124.out (fun _ hk => hk.2)⟩, ⟨by (with_reducible repeat (first | refine blk_drewN ?_ _ | refine blk_drew ?_ | refine blk_alloc ?_ _)); exact BK105.out⟩, ⟨by (with_reducible repeat (first | refine blk_drewN ?_ _ | refine blk_drew ?_ | refine blk_alloc ?_ _)); exact BK106.out⟩, ⟨by (with_reducible repeat (first | refine blk_drewN ?_ _ | refine blk_drew ?_ | refine blk_alloc ?_ _)); exact BK127.out⟩, ⟨by repeat (first | (with_reducible first | exact HB.out | apply below_alloc | apply pw_below_drewN | apply below_drew1 | refine below_set ?_ GE105.out | refine below_set ?_ GE106.out | refine below_set ?_ GE127.out) | exact HB.out)⟩⟩
           case round =>
            clear H'
            try clear c1
            try clear c2
            try clear p2
            try clear c3
            try clear c4
            try clear c5
            try clear c6
            try clear p6
            try clear c10
            try clear c14
            try clear c14b0
            try clear c17
            try clear c17b0
            try clear c17b1
            try clear c17b2
            try clear c19
            try clear c19b0
            try clear c19b1
            try clear c21
            try clear c21b0
            try clear c21b1
            try clear c21b2
            try clear c22
            try clear c23
            try clear c32
            try clear c33
            try clear c38
            try clear c47
            try clear c48
            try clear c52
            try clear c52b0
            try clear c52b1
            try clear c52b2
            try clear c54
            try clear c63
            try clear c64
            try clear p64
            try clear c67
            try clear c68
            try clear hcz11_0
            try clear hcz11_1
            try clear hcz24_0
            try clear hcz24_1
            try clear hcz27_0
            try clear hcz27_1
            try clear hcz27_2
            try clear hcz28_0
            try clear hcz28_1
            try clear hcz34_0
            try clear hcz34_1
            try clear hcz35_0
            try clear hcz35_1
            try clear hcz39_0
            try clear hcz39_1
            try clear hcz42_0
            try clear hcz42_1
            try clear hcz42_2
            try clear hcz43_0
            try clear hcz43_1
            try clear hcz49_0
            try clear hcz49_1
            try clear hcz50_0
            try clear hcz50_1
            try clear hcz55_0
            try clear hcz55_1
            try clear hcz58_0
            try clear hcz58_1
            try clear hcz58_2
            try clear hcz59_0
            try clear hcz59_1
            try clear hcz65_0
            try clear hcz65_1
            try clear hcz66_0
            try clear hcz66_1
            try clear hcz8_0
            try clear hcz8_1
            try clear hcz8_2
            try clear hfz11_0
            try clear hfz11_1
            try clear hfz24_0
            try clear hfz24_1
            try clear hfz27_0
            try clear hfz27_1
            try clear hfz27_2
            try clear hfz28_0
            try clear hfz28_1
            try clear hfz34_0
            try clear hfz34_1
            try clear hfz35_0
            try clear hfz35_1
            try clear hfz39_0
            try clear hfz39_1
            try clear hfz42_0
            try clear hfz42_1
            try clear hfz42_2
            try clear hfz43_0
            try clear hfz43_1
            try clear hfz49_0
            try clear hfz49_1
            try clear hfz50_0
            try clear hfz50_1
            try clear hfz55_0
            try clear hfz55_1
            try clear hfz58_0
            try clear hfz58_1
            try clear hfz58_2
            try clear hfz59_0
            try clear hfz59_1
            try clear hfz65_0
            try clear hfz65_1
            try clear hfz66_0
            try clear hfz66_1
            try clear hfz8_0
            try clear hfz8_1
            try clear hfz8_2
            try clear p2
            try clear p6
            obtain ⟨x13_2, x14_2, rfl, rfl, HA, HK2, HO_5, HO_107000, HO_128000, BK105, BK106, BK127, HB⟩ := hrel
            cases gk with
            | zero => exact absurd HA.out (by simp [laws_FnLock.l1])
            | succ k2 =>
             have H := HA.out
             clear HA
             simp only [laws_FnLock.l1] at H
             by_cases c70 : x14_2 < (y128.length : Int)
             ·
              rw [if_pos c70] at H
              have c70b0 : decide (x14_2 < (y128.length : Int)) = true := decide_eq_true c70
              clear c70
              (first | rw [c70b0] | (simp only [i64_w, i32_w]; rw [c70b0]) | skip)
              by_cases c71 : 0 ≤ x14_2
              ·
               rw [if_pos c71] at H
               have c71b0 : decide (0 ≤ x14_2) = true := decide_eq_true c71
               clear c71
               by_cases c72 : (wrap64 ((wrap64 (x7_1 + (Int.tmod t110 7))) - (rd y128 x14_2))) ≤ (wrap64 (1 + (Int.tmod t103 20)))
               ·
                rw [if_pos c72] at H
                have c72b0 : decide ((wrap64 ((wrap64 (x7_1 + (Int.tmod t110 7))) - (rd y128 x14_2))) ≤ (wrap64 (1 + (Int.tmod t103 20)))) = true := decide_eq_true c72
                clear c72
                have H' := Aside0.mk H
                clear H
                obtain ⟨Ao73, co73, eo73⟩ := Kd.R_slice HO_5.out
                subst eo73
                have p131 : 0 ≤ (x14_2 : Int) := of_decide_eq_true (by first | (with_reducible assumption) | assumption)
                have q131 : x14_2 < (y128.length : Int) := of_decide_eq_true (by first | (with_reducible assumption) | assumption)
                obtain ⟨ad131, e131, hx131_0⟩ := Kd.at_int (Kd.R_reads' HO_5.out).2.2 x14_2 p131 q131
                cases e131
                replace p131 := eq_true p131
                replace q131 := eq_true q131
                have hnb74 := NB105_106.out
                have hnc74 := NB106_105.out
                have hnb75 := NB105_127.out
                have hnc75 := NB127_105.out
                have hcz76_0 : wr.cell? ⟨gb105, 0, none⟩ = some (.int .i64 (wrap64 (1 + (Int.tmod t102 4)))) := (blk_cell BK105.out 0).trans rfl
                have hcz76_1 : wr.cell? ⟨gb105, 1, none⟩ = some (.int .i64 (wrap64 (1 + (Int.tmod t103 20)))) := (blk_cell BK105.out 1).trans rfl
                have hcz76_2 : wr.cell? ⟨gb105, 2, none⟩ = some (.int .i64 (wrap64 (1 + (Int.tmod t104 20)))) := (blk_cell BK105.out 2).trans rfl
                have hfz76_0 := blk_frozen BK105.out 0
                have hfz76_1 := blk_frozen BK105.out 1
                have hfz76_2 := blk_frozen BK105.out 2
                go_wp2
                repeat (go_quiet (fail); try go_wp2)
                go_roundg k2
                case measure => have := HK1.out; have := HK2.out; omega
                case rel => exact ⟨(wrap64 (x13_2 + 1)), (wrap64 (x14_2 + 1)), (by first | rfl | (simp; done) | (simp [*]; done)), (by first | rfl | (simp; done) | (simp [*]; done)), H', ⟨by have := HK1.out; have := HK2.out; omega⟩, ⟨by (with_reducible repeat (first | apply Kd.R_alloc | apply Kd.R_drewN | apply Kd.R_drew)); exact HO_5.out⟩, ⟨by (with_reducible repeat (first | apply Kd.R_alloc | apply Kd.R_drewN | apply Kd.R_drew)); exact HO_107000.out⟩, ⟨by (with_reducible repeat (first | apply Kd.R_alloc | apply Kd.R_drewN | apply Kd.R_drew)); exact HO_128000.out⟩, ⟨by (with_reducible repeat (first | refine blk_drewN ?_ _ | refine blk_drew ?_ | refine blk_alloc ?_ _)); exact BK105.out⟩, ⟨by (with_reducible repeat (first | refine blk_drewN ?_ _ | refine blk_drew ?_ | refine blk_alloc ?_ _)); exact BK106.out⟩, ⟨by (with_reducible repeat (first | refine blk_drewN ?_ _ | refine blk_drew ?_ | refine blk_alloc ?_ _)); exact BK127.out⟩, ⟨by repeat (first | (with_reducible first | exact HB.out | apply below_alloc | apply pw_below_drewN | apply below_drew1 | refine below_set ?_ GE105.out | refine below_set ?_ GE106.out | refine below_set ?_ GE127.out) | exact HB.out)⟩⟩
               ·
                rw [if_neg c72] at H
                have c72b0 : decide ((wrap64 ((wrap64 (x7_1 + (Int.tmod t110 7))) - (rd y128 x14_2))) ≤ (wrap64 (1 + (Int.tmod t103 20)))) = false := decide_eq_false c72
                clear c72
                have H' := Aside0.mk H
                clear H
                obtain ⟨Ao77, co77, eo77⟩ := Kd.R_slice HO_5.out
                subst eo77
                have p131 : 0 ≤ (x14_2 : Int) := of_decide_eq_true (by first | (with_reducible assumption) | assumption)
                have q131 : x14_2 < (y128.length : Int) := of_decide_eq_true (by first | (with_reducible assumption) | assumption)
                obtain ⟨ad131, e131, hx131_0⟩ := Kd.at_int (Kd.R_reads' HO_5.out).2.2 x14_2 p131 q131
                cases e131
                replace p131 := eq_true p131
                replace q131 := eq_true q131
                have hnb78 := NB105_106.out
                have hnc78 := NB106_105.out
                have hnb79 := NB105_127.out
                have hnc79 := NB127_105.out
                have hcz80_0 : wr.cell? ⟨gb105, 0, none⟩ = some (.int .i64 (wrap64 (1 + (Int.tmod t102 4)))) := (blk_cell BK105.out 0).trans rfl
                have hcz80_1 : wr.cell? ⟨gb105, 1, none⟩ = some (.int .i64 (wrap64 (1 + (Int.tmod t103 20)))) := (blk_cell BK105.out 1).trans rfl
                have hcz80_2 : wr.cell? ⟨gb105, 2, none⟩ = some (.int .i64 (wrap64 (1 + (Int.tmod t104 20)))) := (blk_cell BK105.out 2).trans rfl
                have hfz80_0 := blk_frozen BK105.out 0
                have hfz80_1 := blk_frozen BK105.out 1
                have hfz80_2 := blk_frozen BK105.out 2
                go_wp2
                repeat (go_quiet (fail); try go_wp2)
                go_roundg k2
                case measure => have := HK1.out; have := HK2.out; omega
                case rel => exact ⟨(x13_2), (wrap64 (x14_2 + 1)), (by first | rfl | (simp; done) | (simp [*]; done)), (by first | rfl | (simp; done) | (simp [*]; done)), H', ⟨by have := HK1.out; have := HK2.out; omega⟩, ⟨by (with_reducible repeat (first | apply Kd.R_alloc | apply Kd.R_drewN | apply Kd.R_drew)); exact HO_5.out⟩, ⟨by (with_reducible repeat (first | apply Kd.R_alloc | apply Kd.R_drewN | apply Kd.R_drew)); exact HO_107000.out⟩, ⟨by (with_reducible repeat (first | apply Kd.R_alloc | apply Kd.R_drewN | apply Kd.R_drew)); exact HO_128000.out⟩, ⟨by (with_reducible repeat (first | refine blk_drewN ?_ _ | refine blk_drew ?_ | refine blk_alloc ?_ _)); exact BK105.out⟩, ⟨by (with_reducible repeat (first | refine blk_drewN ?_ _ | refine blk_drew ?_ | refine blk_alloc ?_ _)); exact BK106.out⟩, ⟨by (with_reducible repeat (first | refine blk_drewN ?_ _ | refine blk_drew ?_ | refine blk_alloc ?_ _)); exact BK127.out⟩, ⟨by repeat (first | (with_reducible first | exact HB.out | apply below_alloc | apply pw_below_drewN | apply below_drew1 | refine below_set ?_ GE105.out | refine below_set ?_ GE106.out | refine below_set ?_ GE127.out) | exact HB.out)⟩⟩
              ·
               rw [if_neg c71] at H
               exact absurd H (by simp)
             ·
              rw [if_neg c70] at H
              have c70b0 : decide (x14_2 < (y128.length : Int)) = false := decide_eq_false c70
              clear c70
              (first | rw [c70b0] | (simp only [i64_w, i32_w]; rw [c70b0]) | skip)
              by_cases c81 : x13_2 ≥ (wrap64 (1 + (Int.tmod t102 4)))
              ·
               rw [if_pos c81] at H
               have c81b0 : decide ((wrap64 (1 + (Int.tmod t102 4))) ≤ x13_2) = true := decide_eq_true c81
               clear c81
               obtain ⟨y132, hy132⟩ : ∃ y_ : List Int, y_ = (([] : List Int)) := ⟨_, rfl⟩
               replace H : (laws_FnLock.j2 k2 l0 y132 (wrap64 ((wrap64 (x7_1 + (Int.tmod t110 7))) + (wrap64 (1 + (Int.tmod t104 20))))) (wrap64 (x7_1 + (Int.tmod t110 7))) x8_1 (wrap64 (1 + (Int.tmod t102 4))) (wrap64 (1 + (Int.tmod t103 20))) (wrap64 (1 + (Int.tmod t104 20))) t122 t125) = some r := by first | (rw [hy132]; with_reducible exact H) | (have H2_ := (Option.bind_some _ _).symm.trans H; rw [hy132]; with_reducible exact H2_) | (have H2_ := (Option.bind_some _ _).symm.trans H; with_reducible exact H2_) | with_reducible exact H | (rw [hy132]; exact H) | exact H
               have Ny132 := Aside0.mk hy132
               clear hy132
               have H' := Aside0.mk H
               clear H
               obtain ⟨Ao82, co82, eo82⟩ := Kd.R_slice HO_5.out
               subst eo82
               have hnb83 := NB105_106.out
               have hnc83 := NB106_105.out
               have hnb84 := NB105_127.out
               have hnc84 := NB127_105.out
               have hcz85_0 : wr.cell? ⟨gb105, 0, none⟩ = some (.int .i64 (wrap64 (1 + (Int.tmod t102 4)))) := (blk_cell BK105.out 0).trans rfl
               have hcz85_1 : wr.cell? ⟨gb105, 1, none⟩ = some (.int .i64 (wrap64 (1 + (Int.tmod t103 20)))) := (blk_cell BK105.out 1).trans rfl
               have hcz85_2 : wr.cell? ⟨gb105, 2, none⟩ = some (.int .i64 (wrap64 (1 + (Int.tmod t104 20)))) := (blk_cell BK105.out 2).trans rfl
               have hfz85_0 := blk_frozen BK105.out 0
               have hfz85_1 := blk_frozen BK105.out 1
               have hfz85_2 := blk_frozen BK105.out 2
               go_wp2_with (first | ((with_reducible refine gate_dst (N := 113) rfl ?_); refine Kd.R_lit (Kd.int .i64) _ 3 ?hg (N := 113) ?hd (xs := ([] : List Int)) (inner := []) (ok := fun _ => True) (okp := fun _ => True) ?hr ?hp (fun _ hk => hk) trivial (Below.refl _ _) (Nat.le_refl _) (by simp) ?_; (case hd => rfl); (case hg => rfl); (case hr => first | (go_simp; done) | (go_simp; rfl)); (case hp => exact (Reps.none _ _)); intro v133 w86 ho87 hb hg_ hnew_; clear hg_ hnew_; (first | rw [← Ny132.out] at ho87 | (simp only [Int.reduceToNat] at ho87; rw [← Ny132.out] at ho87)); have n0_ := Aside0.mk (Kd.R_elder' (qrf6 HO_5.out) (Kd.R_base ho87) hb); have n1_ := Aside0.mk (Kd.R_elder' (qrf6 HO_107000.out) (Kd.R_base ho87) hb); have n2_ := Aside0.mk (Kd.R_elder' (qrf6 HO_128000.out) (Kd.R_base ho87) hb); have n3_ := Aside0.mk (Kd.R_lower (Kd.R_new' (Kd.R_new' (Kd.R_new' ho87 (Kd.R_lt (qrf6 HO_5.out))) (Kd.R_lt (qrf6 HO_107000.out))) (Kd.R_lt (qrf6 HO_128000.out))) (below_size (qw3f6 HB.out GE105.out GE106.out GE127.out))); have n4_ := Aside0.mk (blk_below (g := gb105) (o := .cells #[.int .i64 (wrap64 (1 + (Int.tmod t102 4))), .int .i64 (wrap64 (1 + (Int.tmod t103 20))), .int .i64 (wrap64 (1 + (Int.tmod t104 20)))] 40 (0, 0)) (qbf6 BK105.out) hb); have n5_ := Aside0.mk (blk_below (g := gb106) (o := .cells #[.slice Ao62 t122.length co62, .int .i64 t125] 30 (0, 0)) (qbf6 BK106.out) hb); have n6_ := Aside0.mk (blk_below (g := gb127) (o := .cells #[.slice Ao62 t122.length co62, .int .i64 t125] 30 (0, 0)) (qbf6 BK127.out) hb); have n7_ := Aside0.mk (below_step (qw3f6 HB.out GE105.out GE106.out GE127.out) hb); clear HO_5; clear HO_107000; clear HO_128000; clear BK105; clear BK106; clear BK127; clear HB; have HO_5 := n0_; have HO_107000 := n1_; have HO_128000 := n2_; have HO134 := n3_; have BK105 := n4_; have BK106 := n5_; have BK127 := n6_; have HB := n7_; clear n0_ n1_ n2_ n3_ n4_ n5_ n6_ n7_; clear hb ho87))
               repeat (go_quiet (first | ((with_reducible refine gate_dst (N := 113) rfl ?_); refine Kd.R_lit (Kd.int .i64) _ 3 ?hg (N := 113) ?hd (xs := ([] : List Int)) (inner := []) (ok := fun _ => True) (okp := fun _ => True) ?hr ?hp (fun _ hk => hk) trivial (Below.refl _ _) (Nat.le_refl _) (by simp) ?_; (case hd => rfl); (case hg => rfl); (case hr => first | (go_simp; done) | (go_simp; rfl)); (case hp => exact (Reps.none _ _)); intro v133 w86 ho87 hb hg_ hnew_; clear hg_ hnew_; (first | rw [← Ny132.out] at ho87 | (simp only [Int.reduceToNat] at ho87; rw [← Ny132.out] at ho87)); have n0_ := Aside0.mk (Kd.R_elder' (qrf6 HO_5.out) (Kd.R_base ho87) hb); have n1_ := Aside0.mk (Kd.R_elder' (qrf6 HO_107000.out) (Kd.R_base ho87) hb); have n2_ := Aside0.mk (Kd.R_elder' (qrf6 HO_128000.out) (Kd.R_base ho87) hb); have n3_ := Aside0.mk (Kd.R_lower (Kd.R_new' (Kd.R_new' (Kd.R_new' ho87 (Kd.R_lt (qrf6 HO_5.out))) (Kd.R_lt (qrf6 HO_107000.out))) (Kd.R_lt (qrf6 HO_128000.out))) (below_size (qw3f6 HB.out GE105.out GE106.out GE127.out))); have n4_ := Aside0.mk (blk_below (g := gb105) (o := .cells #[.int .i64 (wrap64 (1 + (Int.tmod t102 4))), .int .i64 (wrap64 (1 + (Int.tmod t103 20))), .int .i64 (wrap64 (1 + (Int.tmod t104 20)))] 40 (0, 0)) (qbf6 BK105.out) hb); have n5_ := Aside0.mk (blk_below (g := gb106) (o := .cells #[.slice Ao62 t122.length co62, .int .i64 t125] 30 (0, 0)) (qbf6 BK106.out) hb); have n6_ := Aside0.mk (blk_below (g := gb127) (o := .cells #[.slice Ao62 t122.length co62, .int .i64 t125] 30 (0, 0)) (qbf6 BK127.out) hb); have n7_ := Aside0.mk (below_step (qw3f6 HB.out GE105.out GE106.out GE127.out) hb); clear HO_5; clear HO_107000; clear HO_128000; clear BK105; clear BK106; clear BK127; clear HB; have HO_5 := n0_; have HO_107000 := n1_; have HO_128000 := n2_; have HO134 := n3_; have BK105 := n4_; have BK106 := n5_; have BK127 := n6_; have HB := n7_; clear n0_ n1_ n2_ n3_ n4_ n5_ n6_ n7_; clear hb ho87)); try go_wp2_with (first | ((with_reducible refine gate_dst (N := 113) rfl ?_); refine Kd.R_lit (Kd.int .i64) _ 3 ?hg (N := 113) ?hd (xs := ([] : List Int)) (inner := []) (ok := fun _ => True) (okp := fun _ => True) ?hr ?hp (fun _ hk => hk) trivial (Below.refl _ _) (Nat.le_refl _) (by simp) ?_; (case hd => rfl); (case hg => rfl); (case hr => first | (go_simp; done) | (go_simp; rfl)); (case hp => exact (Reps.none _ _)); intro v133 w86 ho87 hb hg_ hnew_; clear hg_ hnew_; (first | rw [← Ny132.out] at ho87 | (simp only [Int.reduceToNat] at ho87; rw [← Ny132.out] at ho87)); have n0_ := Aside0.mk (Kd.R_elder' (qrf6 HO_5.out) (Kd.R_base ho87) hb); have n1_ := Aside0.mk (Kd.R_elder' (qrf6 HO_107000.out) (Kd.R_base ho87) hb); have n2_ := Aside0.mk (Kd.R_elder' (qrf6 HO_128000.out) (Kd.R_base ho87) hb); have n3_ := Aside0.mk (Kd.R_lower (Kd.R_new' (Kd.R_new' (Kd.R_new' ho87 (Kd.R_lt (qrf6 HO_5.out))) (Kd.R_lt (qrf6 HO_107000.out))) (Kd.R_lt (qrf6 HO_128000.out))) (below_size (qw3f6 HB.out GE105.out GE106.out GE127.out))); have n4_ := Aside0.mk (blk_below (g := gb105) (o := .cells #[.int .i64 (wrap64 (1 + (Int.tmod t102 4))), .int .i64 (wrap64 (1 + (Int.tmod t103 20))), .int .i64 (wrap64 (1 + (Int.tmod t104 20)))] 40 (0, 0)) (qbf6 BK105.out) hb); have n5_ := Aside0.mk (blk_below (g := gb106) (o := .cells #[.slice Ao62 t122.length co62, .int .i64 t125] 30 (0, 0)) (qbf6 BK106.out) hb); have n6_ := Aside0.mk (blk_below (g := gb127) (o := .cells #[.slice Ao62 t122.length co62, .int .i64 t125] 30 (0, 0)) (qbf6 BK127.out) hb); have n7_ := Aside0.mk (below_step (qw3f6 HB.out GE105.out GE106.out GE127.out) hb); clear HO_5; clear HO_107000; clear HO_128000; clear BK105; clear BK106; clear BK127; clear HB; have HO_5 := n0_; have HO_107000 := n1_; have HO_128000 := n2_; have HO134 := n3_; have BK105 := n4_; have BK106 := n5_; have BK127 := n6_; have HB := n7_; clear n0_ n1_ n2_ n3_ n4_ n5_ n6_ n7_; clear hb ho87)))
               go_meet
               case rel => exact ⟨_, (y132), (wrap64 ((wrap64 (x7_1 + (Int.tmod t110 7))) + (wrap64 (1 + (Int.tmod t104 20))))), (by first | rfl | (simp; done) | (simp [*]; done)), H', ⟨by have := HK1.out; have := HK2.out; first | omega | exact Nat.le_refl _⟩, ⟨by (with_reducible repeat (first | apply Kd.R_alloc | apply Kd.R_drewN | apply Kd.R_drew)); exact Kd.R_mono HO134.out (fun _ hk => ⟨hk.1.2, hk.2⟩)⟩, ⟨by (with_reducible repeat (first | apply Kd.R_alloc | apply Kd.R_drewN | apply Kd.R_drew)); exact Kd.R_mono HO_107000.out (fun _ hk => hk.2)⟩, ⟨by (with_reducible repeat (first | apply Kd.R_alloc | apply Kd.R_drewN | apply Kd.R_drew)); exact Kd.R_mono HO_128000.out (fun _ hk => hk.2)⟩, ⟨by (with_reducible repeat (first | refine blk_drewN ?_ _ | refine blk_drew ?_ | refine blk_alloc ?_ _)); exact BK105.out⟩, ⟨by (with_reducible repeat (first | refine blk_drewN ?_ _ | refine blk_drew ?_ | refine blk_alloc ?_ _)); exact BK106.out⟩, ⟨by (with_reducible repeat (first | refine blk_drewN ?_ _ | refine blk_drew ?_ | refine blk_alloc ?_ _)); exact BK127.out⟩, ⟨by repeat (first | (with_reducible first | exact HB.out | apply below_alloc | apply pw_below_drewN | apply below_drew1 | refine below_set ?_ GE105.out | refine below_set ?_ GE106.out | refine below_set ?_ GE127.out) | exact HB.out)⟩⟩
              ·
               rw [if_neg c81] at H
               have c81b0 : decide ((wrap64 (1 + (Int.tmod t102 4))) ≤ x13_2) = false := decide_eq_false c81
               clear c81
               have H' := Aside0.mk H
               clear H
               obtain ⟨Ao88, co88, eo88⟩ := Kd.R_slice HO_5.out
               subst eo88
               have hnb89 := NB105_106.out
               have hnc89 := NB106_105.out
               have hnb90 := NB105_127.out
               have hnc90 := NB127_105.out
               have hcz91_0 : wr.cell? ⟨gb105, 0, none⟩ = some (.int .i64 (wrap64 (1 + (Int.tmod t102 4)))) := (blk_cell BK105.out 0).trans rfl
               have hcz91_1 : wr.cell? ⟨gb105, 1, none⟩ = some (.int .i64 (wrap64 (1 + (Int.tmod t103 20)))) := (blk_cell BK105.out 1).trans rfl
               have hcz91_2 : wr.cell? ⟨gb105, 2, none⟩ = some (.int .i64 (wrap64 (1 + (Int.tmod t104 20)))) := (blk_cell BK105.out 2).trans rfl
               have hfz91_0 := blk_frozen BK105.out 0
               have hfz91_1 := blk_frozen BK105.out 1
               have hfz91_2 := blk_frozen BK105.out 2
               go_wp2
               repeat (go_quiet (fail); try go_wp2)
               go_meet
               case rel => exact ⟨_, (y128), (x6_1), (by first | rfl | (simp; done) | (simp [*]; done)), H', ⟨by have := HK1.out; have := HK2.out; first | omega | exact Nat.le_refl _⟩, ⟨by (with_reducible repeat (first | apply Kd.R_alloc | apply Kd.R_drewN | apply Kd.R_drew)); exact HO_5.out⟩, ⟨by (with_reducible repeat (first | apply Kd.R_alloc | apply Kd.R_drewN | apply Kd.R_drew)); exact HO_107000.out⟩, ⟨by (with_reducible repeat (first | apply Kd.R_alloc | apply Kd.R_drewN | apply Kd.R_drew)); exact HO_128000.out⟩, ⟨by (with_reducible repeat (first | refine blk_drewN ?_ _ | refine blk_drew ?_ | refine blk_alloc ?_ _)); exact BK105.out⟩, ⟨by (with_reducible repeat (first | refine blk_drewN ?_ _ | refine blk_drew ?_ | refine blk_alloc ?_ _)); exact BK106.out⟩, ⟨by (with_reducible repeat (first | refine blk_drewN ?_ _ | refine blk_drew ?_ | refine blk_alloc ?_ _)); exact BK127.out⟩, ⟨by repeat (first | (with_reducible first | exact HB.out | apply below_alloc | apply pw_below_drewN | apply below_drew1 | refine below_set ?_ GE105.out | refine below_set ?_ GE106.out | refine below_set ?_ GE127.out) | exact HB.out)⟩⟩
          ·
           rw [if_neg c68] at H
           exact absurd H (by simp)
         ·
          replace c67 := Bool.eq_false_iff.mpr c67
          subst c67
          have H1 : (laws_FnLock.j2 k1 l0 x5_1 x6_1 (wrap64 (x7_1 + (Int.tmod t110 7))) x8_1 (wrap64 (1 + (Int.tmod t102 4))) (wrap64 (1 + (Int.tmod t103 20))) (wrap64 (1 + (Int.tmod t104 20))) t122 t125) = some r := by rw [if_neg (show ¬ (false = true) by decide)] at H; exact H
          clear H
          have H := H1
          clear H1
          have H' := Aside0.mk H
          clear H
          go_wp2
          repeat (go_quiet (fail); try go_wp2)
          go_meet
          case rel => exact ⟨_, (x5_1), (x6_1), (by first | rfl | (simp; done) | (simp [*]; done)), H', ⟨by have := HK1.out; first | omega | exact Nat.le_refl _⟩, ⟨by (with_reducible repeat (first | apply Kd.R_alloc | apply Kd.R_drewN | apply Kd.R_drew)); exact Kd.R_mono (Kd.R_far (p := ⟨gb106, 1, none⟩) (Kd.R_far (p := ⟨gb106, 0, none⟩) (Kd.R_far (p := ⟨gb127, 1, none⟩) (Kd.R_far (p := ⟨gb127, 0, none⟩) (Kd.R_types (Kd.R_types HO_5.out BK127.out (by decide)) BK106.out (by decide)) (fun _ hk => hk.1.2) (.slice Ao62 t122.length co62)) (fun _ hk => hk.1.2) (.int .i64 t125)) (fun _ hk => hk.2) (.slice Ao62 t122.length co62)) (fun _ hk => hk.2) (.int .i64 t125)) (fun _ hk => ⟨hk.1.1.2, hk.1.1.2⟩)⟩, ⟨by (with_reducible repeat (first | apply Kd.R_alloc | apply Kd.R_drewN | apply Kd.R_drew)); exact Kd.R_mono (Kd.R_far (p := ⟨gb106, 1, none⟩) (Kd.R_far (p := ⟨gb106, 0, none⟩) (Kd.R_far (p := ⟨gb127, 1, none⟩) (Kd.R_far (p := ⟨gb127, 0, none⟩) (Kd.R_types (Kd.R_types HO124.out BK127.out (by decide)) BK106.out (by decide)) (fun _ hk => hk.1.2) (.slice Ao62 t122.length co62)) (fun _ hk => hk.1.2) (.int .i64 t125)) (fun _ hk => hk.2) (.slice Ao62 t122.length co62)) (fun _ hk => hk.2) (.int .i64 t125)) (fun _ hk => hk.1.1.1.2)⟩, ⟨by (with_reducible repeat (first | apply Kd.R_alloc | apply Kd.R_drewN | apply Kd.R_drew)); exact Kd.R_mono (Kd.R_far (p := ⟨gb106, 1, none⟩) (Kd.R_far (p := ⟨gb106, 0, none⟩) (Kd.R_far (p := ⟨gb127, 1, none⟩) (Kd.R_far (p := ⟨gb127, 0, none⟩) (Kd.R_types (Kd.R_types HO124.out BK127.out (by decide)) BK106.out (by decide)) (fun _ hk => hk.1.2) (.slice Ao62 t122.length co62)) (fun _ hk => hk.1.2) (.int .i64 t125)) (fun _ hk => hk.2) (.slice Ao62 t122.length co62)) (fun _ hk => hk.2) (.int .i64 t125)) (fun _ hk => hk.1.1.1.2)⟩, ⟨by (with_reducible repeat (first | refine blk_drewN ?_ _ | refine blk_drew ?_ | refine blk_alloc ?_ _)); refine blk_far ?_ NB105_106.out _; (with_reducible repeat (first | refine blk_drewN ?_ _ | refine blk_drew ?_ | refine blk_alloc ?_ _)); refine blk_far ?_ NB105_106.out _; (with_reducible repeat (first | refine blk_drewN ?_ _ | refine blk_drew ?_ | refine blk_alloc ?_ _)); refine blk_far ?_ NB105_127.out _; (with_reducible repeat (first | refine blk_drewN ?_ _ | refine blk_drew ?_ | refine blk_alloc ?_ _)); refine blk_far ?_ NB105_127.out _; (with_reducible repeat (first | refine blk_drewN ?_ _ | refine blk_drew ?_ | refine blk_alloc ?_ _)); exact BK105.out⟩, ⟨by (with_reducible repeat (first | refine blk_drewN ?_ _ | refine blk_drew ?_ | refine blk_alloc ?_ _)); refine blk_put (cs := #[.slice Ao62 t122.length co62, .int .i64 x107001_1]) ?_ 1 _ rfl; (with_reducible repeat (first | refine blk_drewN ?_ _ | refine blk_drew ?_ | refine blk_alloc ?_ _)); refine blk_put (cs := #[.slice Ao56 x107000_1.length co56, .int .i64 x107001_1]) ?_ 0 _ rfl; (with_reducible repeat (first | refine blk_drewN ?_ _ | refine blk_drew ?_ | refine blk_alloc ?_ _)); refine blk_far ?_ NB106_127.out _; (with_reducible repeat (first | refine blk_drewN ?_ _ | refine blk_drew ?_ | refine blk_alloc ?_ _)); refine blk_far ?_ NB106_127.out _; (with_reducible repeat (first | refine blk_drewN ?_ _ | refine blk_drew ?_ | refine blk_alloc ?_ _)); exact BK106.out⟩, ⟨by (with_reducible repeat (first | refine blk_drewN ?_ _ | refine blk_drew ?_ | refine blk_alloc ?_ _)); refine blk_far ?_ NB127_106.out _; (with_reducible repeat (first | refine blk_drewN ?_ _ | refine blk_drew ?_ | refine blk_alloc ?_ _)); refine blk_far ?_ NB127_106.out _; (with_reducible repeat (first | refine blk_drewN ?_ _ | refine blk_drew ?_ | refine blk_alloc ?_ _)); refine blk_put (cs := #[.slice Ao62 t122.length co62, .int .i64 0]) ?_ 1 _ rfl; (with_reducible repeat (first | refine blk_drewN ?_ _ | refine blk_drew ?_ | refine blk_alloc ?_ _)); refine blk_put (cs := #[.slice none 0 0, .int .i64 0]) ?_ 0 _ rfl; (with_reducible repeat (first | refine blk_drewN ?_ _ | refine blk_drew ?_ | refine blk_alloc ?_ _)); exact BK127.out⟩, ⟨by repeat (first | (with_reducible first | exact HB.out | apply below_alloc | apply pw_below_drewN | apply below_drew1 | refine below_set ?_ GE105.out | refine below_set ?_ GE106.out | refine below_set ?_ GE127.out) | exact HB.out)⟩⟩
        case rest =>
         clear HC53
         try clear c1
         try clear p1
         try clear q1
         try clear hx1
         try clear c2
         try clear p2
         try clear c3
         try clear c4
         try clear c5
         try clear c6
         try clear p6
         try clear c7
         try clear c8
         try clear c9
         try clear c10
         try clear p13
         try clear q13
         try clear hx13
         try clear c14
         try clear c14b0
         try clear c17
         try clear c17b0
         try clear c17b1
         try clear c17b2
         try clear c19
         try clear c19b0
         try clear c19b1
         try clear c21
         try clear c21b0
         try clear c21b1
         try clear c21b2
         try clear c22
         try clear c23
         try clear c32
         try clear c33
         try clear c38
         try clear c47
         try clear c48
         try clear c52
         try clear c52b0
         try clear c52b1
         try clear c52b2
         try clear c54
         try clear c63
         try clear c64
         try clear p64
         try clear c67
         try clear c68
         try clear c70
         try clear c70b0
         try clear c71
         try clear c71b0
         try clear c72
         try clear c72b0
         try clear c74
         try clear c75
         try clear c78
         try clear c79
         try clear c81
         try clear c81b0
         try clear c83
         try clear c84
         try clear c89
         try clear c90
         try clear hcz11_0
         try clear hcz11_1
         try clear hcz24_0
         try clear hcz24_1
         try clear hcz27_0
         try clear hcz27_1
         try clear hcz27_2
         try clear hcz28_0
         try clear hcz28_1
         try clear hcz34_0
         try clear hcz34_1
         try clear hcz35_0
         try clear hcz35_1
         try clear hcz39_0
         try clear hcz39_1
         try clear hcz42_0
         try clear hcz42_1
         try clear hcz42_2
         try clear hcz43_0
         try clear hcz43_1
         try clear hcz49_0
         try clear hcz49_1
         try clear hcz50_0
         try clear hcz50_1
         try clear hcz55_0
         try clear hcz55_1
         try clear hcz58_0
         try clear hcz58_1
         try clear hcz58_2
         try clear hcz59_0
         try clear hcz59_1
         try clear hcz65_0
         try clear hcz65_1
         try clear hcz66_0
         try clear hcz66_1
         try clear hcz76_0
         try clear hcz76_1
         try clear hcz76_2
         try clear hcz80_0
         try clear hcz80_1
         try clear hcz80_2
         try clear hcz85_0
         try clear hcz85_1
         try clear hcz85_2
         try clear hcz8_0
         try clear hcz8_1
         try clear hcz8_2
         try clear hcz91_0
         try clear hcz91_1
         try clear hcz91_2
         try clear hfz11_0
         try clear hfz11_1
         try clear hfz24_0
         try clear hfz24_1
         try clear hfz27_0
         try clear hfz27_1
         try clear hfz27_2
         try clear hfz28_0
         try clear hfz28_1
         try clear hfz34_0
         try clear hfz34_1
         try clear hfz35_0
         try clear hfz35_1
         try clear hfz39_0
         try clear hfz39_1
         try clear hfz42_0
         try clear hfz42_1
         try clear hfz42_2
         try clear hfz43_0
         try clear hfz43_1
         try clear hfz49_0
         try clear hfz49_1
         try clear hfz50_0
         try clear hfz50_1
         try clear hfz55_0
         try clear hfz55_1
         try clear hfz58_0
         try clear hfz58_1
         try clear hfz58_2
         try clear hfz59_0
         try clear hfz59_1
         try clear hfz65_0
         try clear hfz65_1
         try clear hfz66_0
         try clear hfz66_1
         try clear hfz76_0
         try clear hfz76_1
         try clear hfz76_2
         try clear hfz80_0
         try clear hfz80_1
         try clear hfz80_2
         try clear hfz85_0
         try clear hfz85_1
         try clear hfz85_2
         try clear hfz8_0
         try clear hfz8_1
         try clear hfz8_2
         try clear hfz91_0
         try clear hfz91_1
         try clear hfz91_2
         try clear hx131_0
         try clear p131
         try clear p2
         try clear p6
         try clear p64
         try clear q131
         obtain ⟨kq, x5_52, x6_52, rfl, HA, HJ52, HO_5, HO_107000, HO_128000, BK105, BK106, BK127, HB⟩ := hcut
         cases kq with
         | zero => exact absurd HA.out (by simp [laws_FnLock.j2])
         | succ kj52 =>
          have H := HA.out
          clear HA
          simp only [laws_FnLock.j2] at H
          replace H := Option.bind_eq_some_iff.mp H
          obtain ⟨t135, A920, H⟩ := H
          replace H : (if t135 = true then (if t125 = x6_52 then (laws_FnLock.l0 kj52 l0 x5_52 x6_52 (wrap64 (x7_1 + (Int.tmod t110 7))) (wrap64 (x8_1 + 1)) (wrap64 (1 + (Int.tmod t102 4))) (wrap64 (1 + (Int.tmod t103 20))) (wrap64 (1 + (Int.tmod t104 20))) t122 t125) else (some false)) else (some false)) = some r := H
          have A92 := Aside0.mk A920
          clear A920
          by_cases c93 : t135 = true
          ·
           subst c93
           have H1 : (if t125 = x6_52 then (laws_FnLock.l0 kj52 l0 x5_52 x6_52 (wrap64 (x7_1 + (Int.tmod t110 7))) (wrap64 (x8_1 + 1)) (wrap64 (1 + (Int.tmod t102 4))) (wrap64 (1 + (Int.tmod t103 20))) (wrap64 (1 + (Int.tmod t104 20))) t122 t125) else (some false)) = some r := by rw [if_pos rfl] at H; exact H
           clear H
           have H := H1
           clear H1
           by_cases c94 : t125 = x6_52
           ·
            rw [if_pos c94] at H
            have c94b0 : (t125 == x6_52) = true := beq_iff_eq.mpr c94
            have c94b1 : (t125 != x6_52) = false := bne_eq_false_iff_eq.mpr c94
            clear c94
            have H' := Aside0.mk H
            clear H
            have hnb95 := NB105_106.out
            have hnc95 := NB106_105.out
            have hnb96 := NB105_127.out
            have hnc96 := NB127_105.out
            have hcz97_0 : wc.cell? ⟨gb105, 0, none⟩ = some (.int .i64 (wrap64 (1 + (Int.tmod t102 4)))) := (blk_cell BK105.out 0).trans rfl
            have hcz97_1 : wc.cell? ⟨gb105, 1, none⟩ = some (.int .i64 (wrap64 (1 + (Int.tmod t103 20)))) := (blk_cell BK105.out 1).trans rfl
            have hcz97_2 : wc.cell? ⟨gb105, 2, none⟩ = some (.int .i64 (wrap64 (1 + (Int.tmod t104 20)))) := (blk_cell BK105.out 2).trans rfl
            have hfz97_0 := blk_frozen BK105.out 0
            have hfz97_1 := blk_frozen BK105.out 1
            have hfz97_2 := blk_frozen BK105.out 2
            have hnb98 := NB106_127.out
            have hnc98 := NB127_106.out
            have hcz99_0 : wc.cell? ⟨gb106, 0, none⟩ = some (.slice Ao62 t122.length co62) := (blk_cell BK106.out 0).trans rfl
            have hcz99_1 : wc.cell? ⟨gb106, 1, none⟩ = some (.int .i64 t125) := (blk_cell BK106.out 1).trans rfl
            have hfz99_0 := blk_frozen BK106.out 0
            have hfz99_1 := blk_frozen BK106.out 1
            go_wp2_with (first | (go_at_call 30; (with_reducible refine (spec_LockOk.calls kj52 (wrap64 (1 + (Int.tmod t102 4))) (wrap64 (1 + (Int.tmod t103 20))) (wrap64 (1 + (Int.tmod t104 20))) _ _ t122 t125 true _ ?side1 ?side2 A92.out).mono ?_); (case side1 => repeat (first | exact (Kd.R_reads' HO_107000.out).2.2 | (with_reducible refine Kd.C_alloc ?_ _) | (with_reducible refine Kd.C_drewN ?_ _) | (with_reducible refine Kd.C_drew ?_))); (case side2 => exact (Kd.R_reads' HO_107000.out).2.1); rintro e w100 ⟨rfl, hb⟩; have n0_ := Aside0.mk (Kd.R_below (qrf6 HO_5.out) hb); have n1_ := Aside0.mk (Kd.R_below (qrf6 HO_107000.out) hb); have n2_ := Aside0.mk (Kd.R_below (qrf6 HO_128000.out) hb); have n3_ := Aside0.mk (blk_below (g := gb105) (o := .cells #[.int .i64 (wrap64 (1 + (Int.tmod t102 4))), .int .i64 (wrap64 (1 + (Int.tmod t103 20))), .int .i64 (wrap64 (1 + (Int.tmod t104 20)))] 40 (0, 0)) (qbf6 BK105.out) hb); have n4_ := Aside0.mk (blk_below (g := gb106) (o := .cells #[.slice Ao62 t122.length co62, .int .i64 t125] 30 (0, 0)) (qbf6 BK106.out) hb); have n5_ := Aside0.mk (blk_below (g := gb127) (o := .cells #[.slice Ao62 t122.length co62, .int .i64 t125] 30 (0, 0)) (qbf6 BK127.out) hb); have n6_ := Aside0.mk (below_step (qw3f6 HB.out GE105.out GE106.out GE127.out) hb); clear HO_5; clear HO_107000; clear HO_128000; clear BK105; clear BK106; clear BK127; clear HB; have HO_5 := n0_; have HO_107000 := n1_; have HO_128000 := n2_; have BK105 := n3_; have BK106 := n4_; have BK127 := n5_; have HB := n6_; clear n0_ n1_ n2_ n3_ n4_ n5_ n6_; (try clear hb); (try clear hb2); (try clear hk); (try clear hi); have hcz101_0 : w100.cell? ⟨gb106, 0, none⟩ = some (.slice Ao62 t122.length co62) := (blk_cell BK106.out 0).trans rfl; have hcz101_1 : w100.cell? ⟨gb106, 1, none⟩ = some (.int .i64 t125) := (blk_cell BK106.out 1).trans rfl; have hfz101_0 := blk_frozen BK106.out 0; have hfz101_1 := blk_frozen BK106.out 1))
            repeat (go_quiet (first | (go_at_call 30; (with_reducible refine (spec_LockOk.calls kj52 (wrap64 (1 + (Int.tmod t102 4))) (wrap64 (1 + (Int.tmod t103 20))) (wrap64 (1 + (Int.tmod t104 20))) _ _ t122 t125 true _ ?side1 ?side2 A92.out).mono ?_); (case side1 => repeat (first | exact (Kd.R_reads' HO_107000.out).2.2 | (with_reducible refine Kd.C_alloc ?_ _) | (with_reducible refine Kd.C_drewN ?_ _) | (with_reducible refine Kd.C_drew ?_))); (case side2 => exact (Kd.R_reads' HO_107000.out).2.1); rintro e w100 ⟨rfl, hb⟩; have n0_ := Aside0.mk (Kd.R_below (qrf6 HO_5.out) hb); have n1_ := Aside0.mk (Kd.R_below (qrf6 HO_107000.out) hb); have n2_ := Aside0.mk (Kd.R_below (qrf6 HO_128000.out) hb); have n3_ := Aside0.mk (blk_below (g := gb105) (o := .cells #[.int .i64 (wrap64 (1 + (Int.tmod t102 4))), .int .i64 (wrap64 (1 + (Int.tmod t103 20))), .int .i64 (wrap64 (1 + (Int.tmod t104 20)))] 40 (0, 0)) (qbf6 BK105.out) hb); have n4_ := Aside0.mk (blk_below (g := gb106) (o := .cells #[.slice Ao62 t122.length co62, .int .i64 t125] 30 (0, 0)) (qbf6 BK106.out) hb); have n5_ := Aside0.mk (blk_below (g := gb127) (o := .cells #[.slice Ao62 t122.length co62, .int .i64 t125] 30 (0, 0)) (qbf6 BK127.out) hb); have n6_ := Aside0.mk (below_step (qw3f6 HB.out GE105.out GE106.out GE127.out) hb); clear HO_5; clear HO_107000; clear HO_128000; clear BK105; clear BK106; clear BK127; clear HB; have HO_5 := n0_; have HO_107000 := n1_; have HO_128000 := n2_; have BK105 := n3_; have BK106 := n4_; have BK127 := n5_; have HB := n6_; clear n0_ n1_ n2_ n3_ n4_ n5_ n6_; (try clear hb); (try clear hb2); (try clear hk); (try clear hi); have hcz101_0 : w100.cell? ⟨gb106, 0, none⟩ = some (.slice Ao62 t122.length co62) := (blk_cell BK106.out 0).trans rfl; have hcz101_1 : w100.cell? ⟨gb106, 1, none⟩ = some (.int .i64 t125) := (blk_cell BK106.out 1).trans rfl; have hfz101_0 := blk_frozen BK106.out 0; have hfz101_1 := blk_frozen BK106.out 1)); try go_wp2_with (first | (go_at_call 30; (with_reducible refine (spec_LockOk.calls kj52 (wrap64 (1 + (Int.tmod t102 4))) (wrap64 (1 + (Int.tmod t103 20))) (wrap64 (1 + (Int.tmod t104 20))) _ _ t122 t125 true _ ?side1 ?side2 A92.out).mono ?_); (case side1 => repeat (first | exact (Kd.R_reads' HO_107000.out).2.2 | (with_reducible refine Kd.C_alloc ?_ _) | (with_reducible refine Kd.C_drewN ?_ _) | (with_reducible refine Kd.C_drew ?_))); (case side2 => exact (Kd.R_reads' HO_107000.out).2.1); rintro e w100 ⟨rfl, hb⟩; have n0_ := Aside0.mk (Kd.R_below (qrf6 HO_5.out) hb); have n1_ := Aside0.mk (Kd.R_below (qrf6 HO_107000.out) hb); have n2_ := Aside0.mk (Kd.R_below (qrf6 HO_128000.out) hb); have n3_ := Aside0.mk (blk_below (g := gb105) (o := .cells #[.int .i64 (wrap64 (1 + (Int.tmod t102 4))), .int .i64 (wrap64 (1 + (Int.tmod t103 20))), .int .i64 (wrap64 (1 + (Int.tmod t104 20)))] 40 (0, 0)) (qbf6 BK105.out) hb); have n4_ := Aside0.mk (blk_below (g := gb106) (o := .cells #[.slice Ao62 t122.length co62, .int .i64 t125] 30 (0, 0)) (qbf6 BK106.out) hb); have n5_ := Aside0.mk (blk_below (g := gb127) (o := .cells #[.slice Ao62 t122.length co62, .int .i64 t125] 30 (0, 0)) (qbf6 BK127.out) hb); have n6_ := Aside0.mk (below_step (qw3f6 HB.out GE105.out GE106.out GE127.out) hb); clear HO_5; clear HO_107000; clear HO_128000; clear BK105; clear BK106; clear BK127; clear HB; have HO_5 := n0_; have HO_107000 := n1_; have HO_128000 := n2_; have BK105 := n3_; have BK106 := n4_; have BK127 := n5_; have HB := n6_; clear n0_ n1_ n2_ n3_ n4_ n5_ n6_; (try clear hb); (try clear hb2); (try clear hk); (try clear hi); have hcz101_0 : w100.cell? ⟨gb106, 0, none⟩ = some (.slice Ao62 t122.length co62) := (blk_cell BK106.out 0).trans rfl; have hcz101_1 : w100.cell? ⟨gb106, 1, none⟩ = some (.int .i64 t125) := (blk_cell BK106.out 1).trans rfl; have hfz101_0 := blk_frozen BK106.out 0; have hfz101_1 := blk_frozen BK106.out 1)))
            go_roundg kj52
            case measure => have := HK1.out; have := HJ52.out; omega
            case rel => exact ⟨(x5_52), (x6_52), ((wrap64 (x7_1 + (Int.tmod t110 7)))), (wrap64 (x8_1 + 1)), (t122), (t125), (.slice Ao62 t122.length co62), (by first | rfl | (simp; done) | (simp [*]; done)), (by first | rfl | (simp; done) | (simp [*]; done)), (by first | rfl | (simp; done) | (simp [*]; done)), H', ⟨by have := HK1.out; have := HJ52.out; omega⟩, ⟨by (with_reducible repeat (first | apply Kd.R_alloc | apply Kd.R_drewN | apply Kd.R_drew)); exact Kd.R_mono HO_5.out (fun _ hk => hk.1)⟩, ⟨by (with_reducible repeat (first | apply Kd.R_alloc | apply Kd.R_drewN | apply Kd.R_drew)); exact HO_107000.out⟩, ⟨by (with_reducible repeat (first | refine blk_drewN ?_ _ | refine blk_drew ?_ | refine blk_alloc ?_ _)); exact BK105.out⟩, ⟨by (with_reducible repeat (first | refine blk_drewN ?_ _ | refine blk_drew ?_ | refine blk_alloc ?_ _)); exact BK106.out⟩, ⟨by repeat (first | (with_reducible first | exact HB.out | apply below_alloc | apply pw_below_drewN | apply below_drew1 | refine below_set ?_ GE105.out | refine below_set ?_ GE106.out | refine below_set ?_ GE127.out) | exact HB.out)⟩⟩
           ·
            rw [if_neg c94] at H
            have c94b0 : (t125 == x6_52) = false := beq_eq_false_iff_ne.mpr c94
            have c94b1 : (t125 != x6_52) = true := bne_iff_ne.mpr c94
            exact absurd ((Option.some.inj H).trans hrt) (by simp)
          ·
           replace c93 := Bool.eq_false_iff.mpr c93
           subst c93
           have H1 : (some false) = some r := by rw [if_neg (show ¬ (false = true) by decide)] at H; exact H
           clear H
           have H := H1
           clear H1
           exact absurd ((Option.some.inj H).trans hrt) (by simp)
    ·
     rw [if_neg c14] at H
     have c14b0 : decide (x8_1 < 40) = false := decide_eq_false c14
     clear c14
     obtain rfl := Option.some.inj H
     go_wp2
     repeat (go_quiet (fail); try go_wp2)
     go_ret
     exact ⟨by first | rfl | (simp [errW_none, errW_some] <;> rfl) | (simp [*, errW_none, errW_some] <;> rfl), by repeat (first | (with_reducible first | exact HB.out | apply below_alloc | apply pw_below_drewN | apply below_drew1 | refine below_set ?_ GE105.out | refine below_set ?_ GE106.out) | exact HB.out)⟩

/-- THE ONE PURE STATEMENT of laws_FnLock: yours. -/
def laws_FnLock.Pure : Prop := ∀ (l0 : List Int), l0.length ≤ maxLen → l0.length * 1 ≤ 140737488351232 → (∀ x ∈ l0, (Lit.int .u8 x).wf = true) → ∃ k, laws_FnLock.f k l0 = some true
theorem laws_FnLock.walk (P : laws_FnLock.Pure) (a0 : Option Addr) (len0 cap0 : Nat) (z0 : List Int) (w : World) (w0 : (a0 = none ∧ len0 = 0 ∧ cap0 = 0 ∧ z0 = []) ∨ ∃ x, a0 = some x ∧ len0 ≤ cap0 ∧ cap0 ≤ maxLen ∧ z0.length = cap0 ∧ (∀ i, i < z0.length → w.cell? (x.add i) = some (.int .u8 (z0.getD i 0))) ∧ ∀ n ∈ z0, (Lit.int .u8 n).wf = true) (y0 : len0 * 1 ≤ 140737488351232) :
  Calls Try.prog 6 #[.slice a0 len0 cap0] w fun e w' => e = .returned (.bool true) ∧ Below w.heap.size w w' := by
 obtain ⟨l0, rfl, hr0, hm0, hw0, hc0⟩ := ReadsInt.ofRowC w0
 obtain ⟨k, h⟩ := P l0 hm0 y0 hw0
 refine (laws_FnLock.calls k _ _ l0 true w (Kd.C_of_reads (d := (0 : Int)) (h1 := fun _ => rfl) hr0) hc0 rfl h).mono ?_
 rintro e w' ⟨rfl, hd⟩
 exact ⟨rfl, hd⟩

end Go.Proofs.Ytfkecldlhngjhaa.XA

namespace Go.Proofs.Ytfkecldlhngjhaa.XA
open Go.RowKit Go.Proofs.YtfkecldlhngjhaaW.PrintWords Go.Proofs.YtfkecldlhngjhaaW.PrintLast Go.Proofs.YtfkecldlhngjhaaW.PrintMore
attribute [local go_sem] max2_int min2_int max_two min_two max_three min_three max_four min_four   -- for this text's walks alone
set_option linter.unusedVariables false
set_option linter.unusedSimpArgs false

/-! ### laws_toIntS: function 16 -/
def laws_toIntS.l0 : Nat → List Int → List Int → Int → Option (List Int)
 | 0, _, _, _ => none
 | k + 1, x0, x3, x4 => if x4 < (x0.length : Int) then (if 0 ≤ x4 then (if x4 < (x3.length : Int) then (laws_toIntS.l0 k x0 (x3.set (x4 : Int).toNat (rd x0 x4)) (wrap64 (x4 + 1))) else (none)) else (none)) else (some x3)
def laws_toIntS.f (k : Nat) (l0 : List Int) : Option (List Int) := if 0 ≤ (l0.length : Int) then (if ((l0.length : Int) : Int).toNat ≤ 35184372088832 then (laws_toIntS.l0 k l0 (List.replicate ((l0.length : Int) : Int).toNat 0) 0) else (none)) else (none)
theorem laws_toIntS.mono_l : ∀ k, (∀ y0 y1 y2, LeO (laws_toIntS.l0 k y0 y1 y2) (laws_toIntS.l0 (k + 1) y0 y1 y2))
 | 0 => fun _ _ _ r h => by simp [laws_toIntS.l0] at h
 | k + 1 => by
  have ih0 := laws_toIntS.mono_l k
  ·
   intro y0 y1 y2
   unfold laws_toIntS.l0
   repeat' first
   | (with_reducible exact ih0 _ _ _)
   | (with_reducible exact LeO.refl _)
   | (with_reducible exact LeO.none _)
   | (with_reducible refine LeO.ite ?_ ?_)
   | (with_reducible refine LeO.bind ?_ (fun _ => ?_))
   | exact ih0 _ _ _
   | exact LeO.none _
   | refine LeO.ite ?_ ?_
   | refine LeO.bind ?_ (fun _ => ?_)
theorem laws_toIntS.mono : ∀ a0 k, LeO (laws_toIntS.f k a0) (laws_toIntS.f (k + 1) a0) := by
 intro a0 k
 have ih0 := laws_toIntS.mono_l k
 unfold laws_toIntS.f
 repeat' first
   | (with_reducible exact ih0 _ _ _)
   | (with_reducible exact LeO.refl _)
   | (with_reducible exact LeO.none _)
   | (with_reducible refine LeO.ite ?_ ?_)
   | (with_reducible refine LeO.bind ?_ (fun _ => ?_))
   | exact ih0 _ _ _
   | exact LeO.none _
   | refine LeO.ite ?_ ?_
   | refine LeO.bind ?_ (fun _ => ?_)
set_option maxHeartbeats 8000000 in
set_option maxRecDepth 100000 in
theorem laws_toIntS.calls (k : Nat) (A0 : Option Addr) (c0 : Nat) (l0 : List Int) (r : List Int) (w : World) (hr0 : Kd.C (Kd.int .i64) w A0 l0.length l0) (hc0 : l0.length ≤ c0) (h : laws_toIntS.f k l0 = some r) :
  Calls Try.prog 16 #[.slice A0 l0.length c0] w fun e w' => ∃ v0_ : Value, e = .returned (v0_) ∧ Kd.R (Kd.int .i64) 3 w' w.heap.size (fun _ => True) v0_ r ∧ Below w.heap.size w w' := by
 have HR0 := Aside0.mk hr0
 have HC0 := Aside0.mk hc0
 clear hr0 hc0
 have HB := Aside0.mk (Below.refl w.heap.size w)
 have H : (if 0 ≤ (l0.length : Int) then (if ((l0.length : Int) : Int).toNat ≤ 35184372088832 then (laws_toIntS.l0 k l0 (List.replicate ((l0.length : Int) : Int).toNat 0) 0) else (none)) else (none)) = some r := h
 clear h
 by_cases c2 : 0 ≤ (l0.length : Int)
 ·
  rw [if_pos c2] at H
  have c2b0 := eq_true c2
  have c2b1 : decide (0 ≤ (l0.length : Int)) = true := decide_eq_true c2
  clear c2
  by_cases c3 : ((l0.length : Int) : Int).toNat ≤ 35184372088832
  ·
   rw [if_pos c3] at H
   have c3b0 := eq_true c3
   have c3b1 : decide (((l0.length : Int) : Int).toNat ≤ 35184372088832) = true := decide_eq_true c3
   clear c3
   obtain ⟨y101, hy101⟩ : ∃ y_ : List Int, y_ = (List.replicate ((l0.length : Int) : Int).toNat 0) := ⟨_, rfl⟩
   replace H : (laws_toIntS.l0 k l0 y101 0) = some r := by first | (rw [hy101]; with_reducible exact H) | (have H2_ := (Option.bind_some _ _).symm.trans H; rw [hy101]; with_reducible exact H2_) | (have H2_ := (Option.bind_some _ _).symm.trans H; with_reducible exact H2_) | with_reducible exact H | (rw [hy101]; exact H) | exact H
   have Ny101 := Aside0.mk hy101
   clear hy101
   have H' := Aside0.mk H
   clear H
   go_enter Try.func16, Try.ntmps16
   go_wp2_with (first | ((with_reducible refine gate_dst (N := 7) rfl ?_); refine Kd.R_make (Kd.int .i64) _ 3 rfl (N := 7) rfl 22 _ _ rfl (l0.length : Int) rfl rfl Try.underlying22 (.int .i64 0) 8 info3 rfl (by decide) (by omega) 0 (ok := fun _ => True) (okp := fun _ => True) rfl (fun _ hk => hk) trivial (of_decide_eq_true (by first | (with_reducible assumption) | assumption)) (Nat.le_trans (Nat.mul_le_mul_right _ (of_decide_eq_true (by first | (with_reducible assumption) | assumption) : (l0.length : Int).toNat ≤ 35184372088832)) (by omega)) (Below.refl _ _) (Nat.le_refl _) ?_; intro v102 w4 ho5 hb hg_ hnew_; clear hg_ hnew_; (first | rw [← Ny101.out] at ho5 | (simp only [Int.reduceToNat] at ho5; rw [← Ny101.out] at ho5)); have n0_ := Aside0.mk (Kd.R_lower ho5 (below_size (by repeat (first | (with_reducible first | exact HB.out | apply below_alloc | apply pw_below_drewN | apply below_drew1) | exact HB.out)))); have n1_ := Aside0.mk (below_step (by repeat (first | (with_reducible first | exact HB.out | apply below_alloc | apply pw_below_drewN | apply below_drew1) | exact HB.out)) hb); clear HB; have HO103 := n0_; have HB := n1_; clear n0_ n1_; clear hb ho5))
   go_loopg [4] k (fun kq v4 w' => ∃ (x3_1 : List Int) (x4_1 : Int), v4 = .int .i64 x4_1 ∧ Aside0 (laws_toIntS.l0 kq l0 x3_1 x4_1 = some r) ∧ Aside0 (kq ≤ k) ∧ Aside0 (Kd.R (Kd.int .i64) 3 w' w.heap.size (fun _ => True) v102 x3_1) ∧ Aside0 (Below w.heap.size w w'))
   case atStart => exact ⟨(y101), (0), (by first | rfl | (simp; done) | (simp [*]; done)), H', ⟨Nat.le_refl _⟩, ⟨by (with_reducible repeat (first | apply Kd.R_alloc | apply Kd.R_drewN | apply Kd.R_drew)); exact HO103.out⟩, ⟨by repeat (first | (with_reducible first | exact HB.out | apply below_alloc | apply pw_below_drewN | apply below_drew1) | exact HB.out)⟩⟩
   case round =>
    clear H'
    try clear c1
    try clear c2
    try clear c2b0
    try clear c2b1
    try clear p2
    try clear c3
    try clear c3b0
    try clear c3b1
    obtain ⟨x3_1, x4_1, rfl, HA, HK1, HO_3, HB⟩ := hrel
    cases gk with
    | zero => exact absurd HA.out (by simp [laws_toIntS.l0])
    | succ k1 =>
     have H := HA.out
     clear HA
     simp only [laws_toIntS.l0] at H
     by_cases c6 : x4_1 < (l0.length : Int)
     ·
      rw [if_pos c6] at H
      have c6b0 : decide (x4_1 < (l0.length : Int)) = true := decide_eq_true c6
      clear c6
      by_cases c7 : 0 ≤ x4_1
      ·
       rw [if_pos c7] at H
       have c7b0 : decide (0 ≤ x4_1) = true := decide_eq_true c7
       clear c7
       by_cases c8 : x4_1 < (x3_1.length : Int)
       ·
        rw [if_pos c8] at H
        have c8b0 : decide (x4_1 < (x3_1.length : Int)) = true := decide_eq_true c8
        clear c8
        obtain ⟨y105, hy105⟩ : ∃ y_ : List Int, y_ = (x3_1.set (x4_1 : Int).toNat (rd l0 x4_1)) := ⟨_, rfl⟩
        replace H : (laws_toIntS.l0 k1 l0 y105 (wrap64 (x4_1 + 1))) = some r := by first | (rw [hy105]; with_reducible exact H) | (have H2_ := (Option.bind_some _ _).symm.trans H; rw [hy105]; with_reducible exact H2_) | (have H2_ := (Option.bind_some _ _).symm.trans H; with_reducible exact H2_) | with_reducible exact H | (rw [hy105]; exact H) | exact H
        have Ny105 := Aside0.mk hy105
        clear hy105
        have H' := Aside0.mk H
        clear H
        have p104 : 0 ≤ (x4_1 : Int) := of_decide_eq_true (by first | (with_reducible assumption) | assumption)
        have q104 : x4_1 < (l0.length : Int) := of_decide_eq_true (by first | (with_reducible assumption) | assumption)
        obtain ⟨ad104, e104, hx104_0⟩ := Kd.at_int HR0.out x4_1 p104 q104
        cases e104
        replace hx104_0 := (HB.out.cell (World.block_lt_of_cell? w _ hx104_0)).trans hx104_0
        replace p104 := eq_true p104
        replace q104 := eq_true q104
        have p9 : 0 ≤ (x4_1 : Int) := of_decide_eq_true (by first | (with_reducible assumption) | assumption)
        have q9 : (x4_1 : Int) < ((x3_1.length : Int) : Int) := of_decide_eq_true (by first | (with_reducible assumption) | assumption)
        obtain ⟨go9, co9, eo9, gb9, gl9, cl9, HG9⟩ := Kd.R_form HO_3.out (by omega)
        (first | cases eo9 | (injection eo9 with ea_ en_ ec_; (first | subst ea_ | (injection ea_ with ea_; subst ea_)); subst ec_; clear en_))
        have GB9 := Aside0.mk gb9
        have GG9 := Aside0.mk HG9
        clear gb9 gl9 HG9
        obtain ⟨hx9_0, hf9_0⟩ := Kd.R_celln 0 HO_3.out (x4_1 : Int) p9 q9
        replace p9 := eq_true p9
        replace q9 := eq_true q9
        have HP10 := Kd.R_putg HO_3.out (x4_1 : Int) (rd l0 x4_1)
        go_wp2_with (first | ((with_reducible refine gate_store (t := 3) (p := 20) rfl ?_); refine store_event (t := 3) (p := 20) (v := ?vo_w11) (w1 := (wr.setCell ⟨go9, (x4_1 : Int).toNat, none⟩ (.int .i64 (rd l0 x4_1)))) ?hg ?ho ?hn ?hr ?_; (case ho => rfl); (case hg => rfl); (case hn => rfl); (case hr => first | (go_simp; done) | (go_simp; rfl)); intro w11 hw; have hg : wr.grownBy w11 (some go9) := (by rw [hw]; exact HP10.2); have hp_ : Kd.R (Kd.int .i64) 3 w11 w.heap.size (fun _ => True) (.slice (some ⟨go9, 0, none⟩) x3_1.length co9) y105 := (by rw [hw, Ny105.out]; exact HP10.1); clear HP10; have n0_ := Aside0.mk (hp_); have n1_ := Aside0.mk ((by rw [hw]; exact below_set (HB.out) GB9.out : Below w.heap.size w w11)); clear HO_3; clear HB; have HO_3 := n0_; have HB := n1_; clear n0_ n1_; clear hg hw hp_))
        go_roundg k1
        case measure => have := HK1.out; omega
        case rel => exact ⟨(y105), (wrap64 (x4_1 + 1)), (by first | rfl | (simp; done) | (simp [*]; done)), H', ⟨by have := HK1.out; omega⟩, ⟨by (with_reducible repeat (first | apply Kd.R_alloc | apply Kd.R_drewN | apply Kd.R_drew)); exact HO_3.out⟩, ⟨by repeat (first | (with_reducible first | exact HB.out | apply below_alloc | apply pw_below_drewN | apply below_drew1) | exact HB.out)⟩⟩
       ·
        rw [if_neg c8] at H
        exact absurd H (by simp)
      ·
       rw [if_neg c7] at H
       exact absurd H (by simp)
     ·
      rw [if_neg c6] at H
      have c6b0 : decide (x4_1 < (l0.length : Int)) = false := decide_eq_false c6
      clear c6
      obtain rfl := Option.some.inj H
      go_wp2
      go_ret
      exact ⟨_, by first | rfl | (simp [errW_none, errW_some] <;> rfl) | (simp [*, errW_none, errW_some] <;> rfl), by (with_reducible repeat (first | apply Kd.R_alloc | apply Kd.R_drewN | apply Kd.R_drew)); exact HO_3.out, by repeat (first | (with_reducible first | exact HB.out | apply below_alloc | apply pw_below_drewN | apply below_drew1) | exact HB.out)⟩
  ·
   rw [if_neg c3] at H
   exact absurd H (by simp)
 ·
  rw [if_neg c2] at H
  exact absurd H (by simp)

end Go.Proofs.Ytfkecldlhngjhaa.XA

namespace Go.Proofs.Ytfkecldlhngjhaa.XA
open Go.RowKit Go.Proofs.YtfkecldlhngjhaaW.PrintWords Go.Proofs.YtfkecldlhngjhaaW.PrintLast Go.Proofs.YtfkecldlhngjhaaW.PrintMore
attribute [local go_sem] max2_int min2_int max_two min_two max_three min_three max_four min_four   -- for this text's walks alone
set_option linter.unusedVariables false
set_option linter.unusedSimpArgs false

/-! ### laws_eqIntS: function 18 -/
def laws_eqIntS.l0 : Nat → List Int → List Int → Int → Option (Bool)
 | 0, _, _, _ => none
 | k + 1, x0, x1, x5 => if x5 < (x0.length : Int) then (if 0 ≤ x5 then (if x5 < (x1.length : Int) then (if (rd x0 x5) = (rd x1 x5) then (laws_eqIntS.l0 k x0 x1 (wrap64 (x5 + 1))) else (some false)) else (none)) else (none)) else (some true)
def laws_eqIntS.f (k : Nat) (l0 : List Int) (l1 : List Int) : Option (Bool) := if (l0.length : Int) = (l1.length : Int) then (laws_eqIntS.l0 k l0 l1 0) else (some false)
theorem laws_eqIntS.mono_l : ∀ k, (∀ y0 y1 y2, LeO (laws_eqIntS.l0 k y0 y1 y2) (laws_eqIntS.l0 (k + 1) y0 y1 y2))
 | 0 => fun _ _ _ r h => by simp [laws_eqIntS.l0] at h
 | k + 1 => by
  have ih0 := laws_eqIntS.mono_l k
  ·
   intro y0 y1 y2
   unfold laws_eqIntS.l0
   repeat' first
   | (with_reducible exact ih0 _ _ _)
   | (with_reducible exact LeO.refl _)
   | (with_reducible exact LeO.none _)
   | (with_reducible refine LeO.ite ?_ ?_)
   | (with_reducible refine LeO.bind ?_ (fun _ => ?_))
   | exact ih0 _ _ _
   | exact LeO.none _
   | refine LeO.ite ?_ ?_
   | refine LeO.bind ?_ (fun _ => ?_)
theorem laws_eqIntS.mono : ∀ a0 a1 k, LeO (laws_eqIntS.f k a0 a1) (laws_eqIntS.f (k + 1) a0 a1) := by
 intro a0 a1 k
 have ih0 := laws_eqIntS.mono_l k
 unfold laws_eqIntS.f
 repeat' first
   | (with_reducible exact ih0 _ _ _)
   | (with_reducible exact LeO.refl _)
   | (with_reducible exact LeO.none _)
   | (with_reducible refine LeO.ite ?_ ?_)
   | (with_reducible refine LeO.bind ?_ (fun _ => ?_))
   | exact ih0 _ _ _
   | exact LeO.none _
   | refine LeO.ite ?_ ?_
   | refine LeO.bind ?_ (fun _ => ?_)
set_option maxHeartbeats 8000000 in
set_option maxRecDepth 100000 in
theorem laws_eqIntS.calls (k : Nat) (A0 : Option Addr) (c0 : Nat) (l0 : List Int) (A1 : Option Addr) (c1 : Nat) (l1 : List Int) (r : Bool) (w : World) (hr0 : Kd.C (Kd.int .i64) w A0 l0.length l0) (hc0 : l0.length ≤ c0) (hr1 : Kd.C (Kd.int .i64) w A1 l1.length l1) (hc1 : l1.length ≤ c1) (h : laws_eqIntS.f k l0 l1 = some r) :
  Calls Try.prog 18 #[.slice A0 l0.length c0, .slice A1 l1.length c1] w fun e w' => e = .returned (.bool r) ∧ Drawn0 w w' := by
 have HR0 := Aside0.mk hr0
 have HC0 := Aside0.mk hc0
 clear hr0 hc0
 have HR1 := Aside0.mk hr1
 have HC1 := Aside0.mk hc1
 clear hr1 hc1
 have H : (if (l0.length : Int) = (l1.length : Int) then (laws_eqIntS.l0 k l0 l1 0) else (some false)) = some r := h
 clear h
 by_cases c3 : (l0.length : Int) = (l1.length : Int)
 ·
  rw [if_pos c3] at H
  have c3b0 : ((l0.length : Int) == (l1.length : Int)) = true := beq_iff_eq.mpr c3
  have c3b1 : ((l0.length : Int) != (l1.length : Int)) = false := bne_eq_false_iff_eq.mpr c3
  have c3b2 : (l0.length == l1.length) = true := by first | simpa using c3 | (simp at c3 ⊢; omega)
  clear c3
  have H' := Aside0.mk H
  clear H
  go_enter Try.func18, Try.ntmps18
  go_wp2
  repeat (go_quiet (fail); try go_wp2)
  go_loopg [5] k (fun kq v5 w' => ∃ (x5_1 : Int), v5 = .int .i64 x5_1 ∧ Aside0 (laws_eqIntS.l0 kq l0 l1 x5_1 = some r) ∧ Aside0 (kq ≤ k) ∧ Drawn0 w w')
  case atStart => exact ⟨(0), (by first | rfl | (simp; done) | (simp [*]; done)), H', ⟨Nat.le_refl _⟩, by repeat (first | exact Drawn0.refl _ | apply Drawn0.step)⟩
  case round =>
   clear H'
   try clear c1
   try clear p2
   try clear c3
   try clear c3b0
   try clear c3b1
   try clear c3b2
   obtain ⟨x5_1, rfl, HA, HK1, ⟨m1, rfl⟩⟩ := hrel
   cases gk with
   | zero => exact absurd HA.out (by simp [laws_eqIntS.l0])
   | succ k1 =>
    have H := HA.out
    clear HA
    simp only [laws_eqIntS.l0] at H
    by_cases c4 : x5_1 < (l0.length : Int)
    ·
     rw [if_pos c4] at H
     have c4b0 : decide (x5_1 < (l0.length : Int)) = true := decide_eq_true c4
     clear c4
     by_cases c5 : 0 ≤ x5_1
     ·
      rw [if_pos c5] at H
      have c5b0 : decide (0 ≤ x5_1) = true := decide_eq_true c5
      clear c5
      by_cases c6 : x5_1 < (l1.length : Int)
      ·
       rw [if_pos c6] at H
       have c6b0 : decide (x5_1 < (l1.length : Int)) = true := decide_eq_true c6
       clear c6
       by_cases c7 : (rd l0 x5_1) = (rd l1 x5_1)
       ·
        rw [if_pos c7] at H
        have c7b0 : ((rd l0 x5_1) == (rd l1 x5_1)) = true := beq_iff_eq.mpr c7
        have c7b1 : ((rd l0 x5_1) != (rd l1 x5_1)) = false := bne_eq_false_iff_eq.mpr c7
        clear c7
        have H' := Aside0.mk H
        clear H
        have p101 : 0 ≤ (x5_1 : Int) := of_decide_eq_true (by first | (with_reducible assumption) | assumption)
        have q101 : x5_1 < (l0.length : Int) := of_decide_eq_true (by first | (with_reducible assumption) | assumption)
        obtain ⟨ad101, e101, hx101_0⟩ := Kd.at_int HR0.out x5_1 p101 q101
        cases e101
        replace p101 := eq_true p101
        replace q101 := eq_true q101
        have p102 : 0 ≤ (x5_1 : Int) := of_decide_eq_true (by first | (with_reducible assumption) | assumption)
        have q102 : x5_1 < (l1.length : Int) := of_decide_eq_true (by first | (with_reducible assumption) | assumption)
        obtain ⟨ad102, e102, hx102_0⟩ := Kd.at_int HR1.out x5_1 p102 q102
        cases e102
        replace p102 := eq_true p102
        replace q102 := eq_true q102
        go_wp2
        repeat (go_quiet (fail); try go_wp2)
        go_roundg k1
        case measure => have := HK1.out; omega
        case rel => exact ⟨(wrap64 (x5_1 + 1)), (by first | rfl | (simp; done) | (simp [*]; done)), H', ⟨by have := HK1.out; omega⟩, by repeat (first | exact Drawn0.refl _ | apply Drawn0.step)⟩
       ·
        rw [if_neg c7] at H
        have c7b0 : ((rd l0 x5_1) == (rd l1 x5_1)) = false := beq_eq_false_iff_ne.mpr c7
        have c7b1 : ((rd l0 x5_1) != (rd l1 x5_1)) = true := bne_iff_ne.mpr c7
        obtain rfl := Option.some.inj H
        have p101 : 0 ≤ (x5_1 : Int) := of_decide_eq_true (by first | (with_reducible assumption) | assumption)
        have q101 : x5_1 < (l0.length : Int) := of_decide_eq_true (by first | (with_reducible assumption) | assumption)
        obtain ⟨ad101, e101, hx101_0⟩ := Kd.at_int HR0.out x5_1 p101 q101
        cases e101
        replace p101 := eq_true p101
        replace q101 := eq_true q101
        have p102 : 0 ≤ (x5_1 : Int) := of_decide_eq_true (by first | (with_reducible assumption) | assumption)
        have q102 : x5_1 < (l1.length : Int) := of_decide_eq_true (by first | (with_reducible assumption) | assumption)
        obtain ⟨ad102, e102, hx102_0⟩ := Kd.at_int HR1.out x5_1 p102 q102
        cases e102
        replace p102 := eq_true p102
        replace q102 := eq_true q102
        go_wp2
        repeat (go_quiet (fail); try go_wp2)
        go_ret
        exact ⟨by first | rfl | (simp; done) | (simp [*]; done), by repeat (first | exact Drawn0.refl _ | apply Drawn0.step)⟩
      ·
       rw [if_neg c6] at H
       exact absurd H (by simp)
     ·
      rw [if_neg c5] at H
      exact absurd H (by simp)
    ·
     rw [if_neg c4] at H
     have c4b0 : decide (x5_1 < (l0.length : Int)) = false := decide_eq_false c4
     clear c4
     obtain rfl := Option.some.inj H
     go_wp2
     repeat (go_quiet (fail); try go_wp2)
     go_ret
     exact ⟨by first | rfl | (simp; done) | (simp [*]; done), by repeat (first | exact Drawn0.refl _ | apply Drawn0.step)⟩
 ·
  rw [if_neg c3] at H
  have c3b0 : ((l0.length : Int) == (l1.length : Int)) = false := beq_eq_false_iff_ne.mpr c3
  have c3b1 : ((l0.length : Int) != (l1.length : Int)) = true := bne_iff_ne.mpr c3
  have c3b2 : (l0.length == l1.length) = false := by first | simpa using c3 | (simp at c3 ⊢; omega)
  obtain rfl := Option.some.inj H
  go_enter Try.func18, Try.ntmps18
  go_wp2
  repeat (go_quiet (fail); try go_wp2)
  go_ret
  exact ⟨by first | rfl | (simp; done) | (simp [*]; done), by repeat (first | exact Drawn0.refl _ | apply Drawn0.step)⟩

end Go.Proofs.Ytfkecldlhngjhaa.XA

namespace Go.Proofs.Ytfkecldlhngjhaa.XA
open Go.RowKit Go.Proofs.YtfkecldlhngjhaaW.PrintWords Go.Proofs.YtfkecldlhngjhaaW.PrintLast Go.Proofs.YtfkecldlhngjhaaW.PrintMore
attribute [local go_sem] max2_int min2_int max_two min_two max_three min_three max_four min_four   -- for this text's walks alone
set_option linter.unusedVariables false
set_option linter.unusedSimpArgs false

/-! ### laws_markIntS: function 37 -/
def laws_markIntS.l0 : Nat → List Int → Int → Int → Option (Int × List Int)
 | 0, _, _, _ => none
 | k + 1, x0, x1, x5 => if x5 < (x0.length : Int) then (if 0 ≤ x5 then (laws_markIntS.l0 k (x0.set (x5 : Int).toNat x1) (wrap64 (x1 + 1)) (wrap64 (x5 + 1))) else (none)) else (some (x1, x0))
def laws_markIntS.f (k : Nat) (l0 : List Int) (a1 : Int) : Option (Int × List Int) := laws_markIntS.l0 k l0 a1 0
theorem laws_markIntS.mono_l : ∀ k, (∀ y0 y1 y2, LeO (laws_markIntS.l0 k y0 y1 y2) (laws_markIntS.l0 (k + 1) y0 y1 y2))
 | 0 => fun _ _ _ r h => by simp [laws_markIntS.l0] at h
 | k + 1 => by
  have ih0 := laws_markIntS.mono_l k
  ·
   intro y0 y1 y2
   unfold laws_markIntS.l0
   repeat' first
   | (with_reducible exact ih0 _ _ _)
   | (with_reducible exact LeO.refl _)
   | (with_reducible exact LeO.none _)
   | (with_reducible refine LeO.ite ?_ ?_)
   | (with_reducible refine LeO.bind ?_ (fun _ => ?_))
   | exact ih0 _ _ _
   | exact LeO.none _
   | refine LeO.ite ?_ ?_
   | refine LeO.bind ?_ (fun _ => ?_)
theorem laws_markIntS.mono : ∀ a0 a1 k, LeO (laws_markIntS.f k a0 a1) (laws_markIntS.f (k + 1) a0 a1) := by
 intro a0 a1 k
 have ih0 := laws_markIntS.mono_l k
 unfold laws_markIntS.f
 repeat' first
   | (with_reducible exact ih0 _ _ _)
   | (with_reducible exact LeO.refl _)
   | (with_reducible exact LeO.none _)
   | (with_reducible refine LeO.ite ?_ ?_)
   | (with_reducible refine LeO.bind ?_ (fun _ => ?_))
   | exact ih0 _ _ _
   | exact LeO.none _
   | refine LeO.ite ?_ ?_
   | refine LeO.bind ?_ (fun _ => ?_)
set_option maxHeartbeats 8000000 in
set_option maxRecDepth 100000 in
theorem laws_markIntS.calls (k : Nat) (P0_ : Nat → Prop) (u9000_ : Value) (l0 : List Int) (a1 : Int) (r1 : Int) (r2 : List Int) (w0 w : World) (hB : Below w0.heap.size w0 w) (ho0 : Kd.R (Kd.int .i64) 3 w w0.heap.size P0_ u9000_ l0) (h : laws_markIntS.f k l0 a1 = some (r1, r2)) :
  Calls Try.prog 37 #[u9000_, .int .i64 a1] w fun e w' => e = .returned (.int .i64 r1) ∧ Kd.R (Kd.int .i64) 3 w' w0.heap.size (fun k_ => (P0_ k_ ∨ w.heap.size ≤ k_)) u9000_ r2 ∧ Below w0.heap.size w0 w' ∧ Kept w w' (fun k_ => P0_ k_) := by
 have HO0 := Aside0.mk (show Kd.R (Kd.int .i64) 3 w w0.heap.size (fun k_ => (P0_ k_ ∨ w.heap.size ≤ k_)) u9000_ l0 from Kd.R_mono ho0 (fun k_ hk => (.inl hk)))
 have HK := Aside0.mk (Kept.refl w (fun k_ => P0_ k_))
 have HW0 := Aside0.mk hB.size
 have HB := Aside0.mk hB
 clear hB
 have H : (laws_markIntS.l0 k l0 a1 0) = some (r1, r2) := h
 clear h
 have H' := Aside0.mk H
 clear H
 go_enter Try.func37, Try.ntmps37
 go_wp2
 go_loopg [1, 5] k (fun kq v1 v5 w' => ∃ (x0_1 : List Int) (x1_1 : Int) (x5_1 : Int), v1 = .int .i64 x1_1 ∧ v5 = .int .i64 x5_1 ∧ Aside0 (laws_markIntS.l0 kq x0_1 x1_1 x5_1 = some (r1, r2)) ∧ Aside0 (kq ≤ k) ∧ Aside0 (Kd.R (Kd.int .i64) 3 w' w0.heap.size (fun k_ => (P0_ k_ ∨ w.heap.size ≤ k_)) u9000_ x0_1) ∧ Aside0 (Kept w w' (fun k_ => P0_ k_)) ∧ Aside0 (Below w0.heap.size w0 w'))
 case atStart => exact ⟨(l0), (a1), (0), (by first | rfl | (simp; done) | (simp [*]; done)), (by first | rfl | (simp; done) | (simp [*]; done)), H', ⟨Nat.le_refl _⟩, ⟨by (with_reducible repeat (first | apply Kd.R_alloc | apply Kd.R_drewN | apply Kd.R_drew)); exact HO0.out⟩, ⟨by repeat (first | (with_reducible first | exact HK.out | apply Kept.alloc | apply Kept.drewN | apply Kept.drew) | exact HK.out)⟩, ⟨by repeat (first | (with_reducible first | exact HB.out | apply below_alloc | apply pw_below_drewN | apply below_drew1) | exact HB.out)⟩⟩
 case round =>
  clear H'
  try clear p2
  obtain ⟨x0_1, x1_1, x5_1, rfl, rfl, HA, HK1, HO_0, HK, HB⟩ := hrel
  cases gk with
  | zero => exact absurd HA.out (by simp [laws_markIntS.l0])
  | succ k1 =>
   have H := HA.out
   clear HA
   simp only [laws_markIntS.l0] at H
   by_cases c3 : x5_1 < (x0_1.length : Int)
   ·
    rw [if_pos c3] at H
    have c3b0 : decide (x5_1 < (x0_1.length : Int)) = true := decide_eq_true c3
    clear c3
    by_cases c4 : 0 ≤ x5_1
    ·
     rw [if_pos c4] at H
     have c4b0 : decide (0 ≤ x5_1) = true := decide_eq_true c4
     clear c4
     obtain ⟨y101, hy101⟩ : ∃ y_ : List Int, y_ = (x0_1.set (x5_1 : Int).toNat x1_1) := ⟨_, rfl⟩
     replace H : (laws_markIntS.l0 k1 y101 (wrap64 (x1_1 + 1)) (wrap64 (x5_1 + 1))) = some (r1, r2) := by first | (rw [hy101]; with_reducible exact H) | (have H2_ := (Option.bind_some _ _).symm.trans H; rw [hy101]; with_reducible exact H2_) | (have H2_ := (Option.bind_some _ _).symm.trans H; with_reducible exact H2_) | with_reducible exact H | (rw [hy101]; exact H) | exact H
     have Ny101 := Aside0.mk hy101
     clear hy101
     have H' := Aside0.mk H
     clear H
     obtain ⟨Ao6, co6, eo6⟩ := Kd.R_slice HO_0.out
     subst eo6
     have p5 : 0 ≤ (x5_1 : Int) := of_decide_eq_true (by first | (with_reducible assumption) | assumption)
     have q5 : (x5_1 : Int) < ((x0_1.length : Int) : Int) := of_decide_eq_true (by first | (with_reducible assumption) | assumption)
     obtain ⟨go5, co5, eo5, gb5, gl5, cl5, HG5⟩ := Kd.R_form HO_0.out (by omega)
     (first | cases eo5 | (injection eo5 with ea_ en_ ec_; (first | subst ea_ | (injection ea_ with ea_; subst ea_)); subst ec_; clear en_))
     have GB5 := Aside0.mk gb5
     have GG5 := Aside0.mk HG5
     clear gb5 gl5 HG5
     have HMgo5 := Aside0.mk (show (P0_ go5 ∨ w.heap.size ≤ go5) from (HO_0.out.1 _ rfl))
     obtain ⟨hx5_0, hf5_0⟩ := Kd.R_celln 0 HO_0.out (x5_1 : Int) p5 q5
     replace p5 := eq_true p5
     replace q5 := eq_true q5
     have HP7 := Kd.R_putg HO_0.out (x5_1 : Int) x1_1
     go_wp2_with (first | ((with_reducible refine gate_store (t := 3) (p := 15) rfl ?_); refine store_event (t := 3) (p := 15) (v := ?vo_w8) (w1 := (wr.setCell ⟨go5, (x5_1 : Int).toNat, none⟩ (.int .i64 x1_1))) ?hg ?ho ?hn ?hr ?_; (case ho => rfl); (case hg => rfl); (case hn => rfl); (case hr => first | (go_simp; done) | (go_simp; rfl)); intro w8 hw; have hg : wr.grownBy w8 (some go5) := (by rw [hw]; exact HP7.2); have hp_ : Kd.R (Kd.int .i64) 3 w8 w0.heap.size (fun k_ => (P0_ k_ ∨ w.heap.size ≤ k_)) (.slice (some ⟨go5, 0, none⟩) x0_1.length co6) y101 := (by rw [hw, Ny101.out]; exact HP7.1); clear HP7; have n0_ := Aside0.mk (hp_); have n1_ := Aside0.mk ((by rw [hw]; exact below_set (HB.out) GB5.out : Below w0.heap.size w0 w8)); have n2_ := Aside0.mk (Kept.of_grown (S := (fun k_ => P0_ k_)) hg (by repeat (first | (with_reducible first | exact HK.out | apply Kept.alloc | apply Kept.drewN | apply Kept.drew) | exact HK.out)) (fun k_ e_ => (HO_0.out.1 k_ e_))); clear HO_0; clear HB; clear HK; have HO_0 := n0_; have HB := n1_; have HK := n2_; clear n0_ n1_ n2_; clear hg hw hp_))
     go_roundg k1
     case measure => have := HK1.out; omega
     case rel => exact ⟨(y101), (wrap64 (x1_1 + 1)), (wrap64 (x5_1 + 1)), (by first | rfl | (simp; done) | (simp [*]; done)), (by first | rfl | (simp; done) | (simp [*]; done)), H', ⟨by have := HK1.out; omega⟩, ⟨by (with_reducible repeat (first | apply Kd.R_alloc | apply Kd.R_drewN | apply Kd.R_drew)); exact HO_0.out⟩, ⟨by repeat (first | (with_reducible first | exact HK.out | apply Kept.alloc | apply Kept.drewN | apply Kept.drew) | exact HK.out)⟩, ⟨by repeat (first | (with_reducible first | exact HB.out | apply below_alloc | apply pw_below_drewN | apply below_drew1) | exact HB.out)⟩⟩
    ·
     rw [if_neg c4] at H
     exact absurd H (by simp)
   ·
    rw [if_neg c3] at H
    have c3b0 : decide (x5_1 < (x0_1.length : Int)) = false := decide_eq_false c3
    clear c3
    simp only [Option.some.injEq, Prod.mk.injEq] at H
    obtain ⟨rfl, rfl⟩ := H
    obtain ⟨Ao9, co9, eo9⟩ := Kd.R_slice HO_0.out
    subst eo9
    go_wp2
    go_ret
    exact ⟨by first | rfl | (simp [errW_none, errW_some] <;> rfl) | (simp [*, errW_none, errW_some] <;> rfl), by (with_reducible repeat (first | apply Kd.R_alloc | apply Kd.R_drewN | apply Kd.R_drew)); exact HO_0.out, by repeat (first | (with_reducible first | exact HB.out | apply below_alloc | apply pw_below_drewN | apply below_drew1) | exact HB.out), by repeat (first | (with_reducible first | exact HK.out | apply Kept.alloc | apply Kept.drewN | apply Kept.drew) | exact HK.out)⟩

end Go.Proofs.Ytfkecldlhngjhaa.XA

namespace Go.Proofs.Ytfkecldlhngjhaa.XA
open Go.RowKit Go.Proofs.YtfkecldlhngjhaaW.PrintWords Go.Proofs.YtfkecldlhngjhaaW.PrintLast Go.Proofs.YtfkecldlhngjhaaW.PrintMore
attribute [local go_sem] max2_int min2_int max_two min_two max_three min_three max_four min_four   -- for this text's walks alone
set_option linter.unusedVariables false
set_option linter.unusedSimpArgs false

/-! ### laws_heldIntS: function 38 -/
def laws_heldIntS.l0 : Nat → List Int → Int → Int → Option (Int)
 | 0, _, _, _ => none
 | k + 1, x0, x1, x5 => if x5 < (x0.length : Int) then (if 0 ≤ x5 then (if (rd x0 x5) = x1 then (laws_heldIntS.l0 k x0 (wrap64 (x1 + 1)) (wrap64 (x5 + 1))) else (some (-1))) else (none)) else (some x1)
def laws_heldIntS.f (k : Nat) (l0 : List Int) (a1 : Int) : Option (Int) := laws_heldIntS.l0 k l0 a1 0
theorem laws_heldIntS.mono_l : ∀ k, (∀ y0 y1 y2, LeO (laws_heldIntS.l0 k y0 y1 y2) (laws_heldIntS.l0 (k + 1) y0 y1 y2))
 | 0 => fun _ _ _ r h => by simp [laws_heldIntS.l0] at h
 | k + 1 => by
  have ih0 := laws_heldIntS.mono_l k
  ·
   intro y0 y1 y2
   unfold laws_heldIntS.l0
   repeat' first
   | (with_reducible exact ih0 _ _ _)
   | (with_reducible exact LeO.refl _)
   | (with_reducible exact LeO.none _)
   | (with_reducible refine LeO.ite ?_ ?_)
   | (with_reducible refine LeO.bind ?_ (fun _ => ?_))
   | exact ih0 _ _ _
   | exact LeO.none _
   | refine LeO.ite ?_ ?_
   | refine LeO.bind ?_ (fun _ => ?_)
theorem laws_heldIntS.mono : ∀ a0 a1 k, LeO (laws_heldIntS.f k a0 a1) (laws_heldIntS.f (k + 1) a0 a1) := by
 intro a0 a1 k
 have ih0 := laws_heldIntS.mono_l k
 unfold laws_heldIntS.f
 repeat' first
   | (with_reducible exact ih0 _ _ _)
   | (with_reducible exact LeO.refl _)
   | (with_reducible exact LeO.none _)
   | (with_reducible refine LeO.ite ?_ ?_)
   | (with_reducible refine LeO.bind ?_ (fun _ => ?_))
   | exact ih0 _ _ _
   | exact LeO.none _
   | refine LeO.ite ?_ ?_
   | refine LeO.bind ?_ (fun _ => ?_)
set_option maxHeartbeats 8000000 in
set_option maxRecDepth 100000 in
theorem laws_heldIntS.calls (k : Nat) (A0 : Option Addr) (c0 : Nat) (l0 : List Int) (a1 : Int) (r : Int) (w : World) (hr0 : Kd.C (Kd.int .i64) w A0 l0.length l0) (hc0 : l0.length ≤ c0) (h : laws_heldIntS.f k l0 a1 = some r) :
  Calls Try.prog 38 #[.slice A0 l0.length c0, .int .i64 a1] w fun e w' => e = .returned (.int .i64 r) ∧ Drawn0 w w' := by
 have HR0 := Aside0.mk hr0
 have HC0 := Aside0.mk hc0
 clear hr0 hc0
 have H : (laws_heldIntS.l0 k l0 a1 0) = some r := h
 clear h
 have H' := Aside0.mk H
 clear H
 go_enter Try.func38, Try.ntmps38
 go_wp2
 go_loopg [1, 5] k (fun kq v1 v5 w' => ∃ (x1_1 : Int) (x5_1 : Int), v1 = .int .i64 x1_1 ∧ v5 = .int .i64 x5_1 ∧ Aside0 (laws_heldIntS.l0 kq l0 x1_1 x5_1 = some r) ∧ Aside0 (kq ≤ k) ∧ Drawn0 w w')
 case atStart => exact ⟨(a1), (0), (by first | rfl | (simp; done) | (simp [*]; done)), (by first | rfl | (simp; done) | (simp [*]; done)), H', ⟨Nat.le_refl _⟩, by repeat (first | exact Drawn0.refl _ | apply Drawn0.step)⟩
 case round =>
  clear H'
  try clear p2
  obtain ⟨x1_1, x5_1, rfl, rfl, HA, HK1, ⟨m1, rfl⟩⟩ := hrel
  cases gk with
  | zero => exact absurd HA.out (by simp [laws_heldIntS.l0])
  | succ k1 =>
   have H := HA.out
   clear HA
   simp only [laws_heldIntS.l0] at H
   by_cases c3 : x5_1 < (l0.length : Int)
   ·
    rw [if_pos c3] at H
    have c3b0 : decide (x5_1 < (l0.length : Int)) = true := decide_eq_true c3
    clear c3
    by_cases c4 : 0 ≤ x5_1
    ·
     rw [if_pos c4] at H
     have c4b0 : decide (0 ≤ x5_1) = true := decide_eq_true c4
     clear c4
     by_cases c5 : (rd l0 x5_1) = x1_1
     ·
      rw [if_pos c5] at H
      have c5b0 : ((rd l0 x5_1) == x1_1) = true := beq_iff_eq.mpr c5
      have c5b1 : ((rd l0 x5_1) != x1_1) = false := bne_eq_false_iff_eq.mpr c5
      clear c5
      have H' := Aside0.mk H
      clear H
      have p101 : 0 ≤ (x5_1 : Int) := of_decide_eq_true (by first | (with_reducible assumption) | assumption)
      have q101 : x5_1 < (l0.length : Int) := of_decide_eq_true (by first | (with_reducible assumption) | assumption)
      obtain ⟨ad101, e101, hx101_0⟩ := Kd.at_int HR0.out x5_1 p101 q101
      cases e101
      replace p101 := eq_true p101
      replace q101 := eq_true q101
      go_wp2
      go_roundg k1
      case measure => have := HK1.out; omega
      case rel => exact ⟨(wrap64 (x1_1 + 1)), (wrap64 (x5_1 + 1)), (by first | rfl | (simp; done) | (simp [*]; done)), (by first | rfl | (simp; done) | (simp [*]; done)), H', ⟨by have := HK1.out; omega⟩, by repeat (first | exact Drawn0.refl _ | apply Drawn0.step)⟩
     ·
      rw [if_neg c5] at H
      have c5b0 : ((rd l0 x5_1) == x1_1) = false := beq_eq_false_iff_ne.mpr c5
      have c5b1 : ((rd l0 x5_1) != x1_1) = true := bne_iff_ne.mpr c5
      obtain rfl := Option.some.inj H
      have p101 : 0 ≤ (x5_1 : Int) := of_decide_eq_true (by first | (with_reducible assumption) | assumption)
      have q101 : x5_1 < (l0.length : Int) := of_decide_eq_true (by first | (with_reducible assumption) | assumption)
      obtain ⟨ad101, e101, hx101_0⟩ := Kd.at_int HR0.out x5_1 p101 q101
      cases e101
      replace p101 := eq_true p101
      replace q101 := eq_true q101
      go_wp2
      go_ret
      exact ⟨by first | rfl | (simp; done) | (simp [*]; done), by repeat (first | exact Drawn0.refl _ | apply Drawn0.step)⟩
    ·
     rw [if_neg c4] at H
     exact absurd H (by simp)
   ·
    rw [if_neg c3] at H
    have c3b0 : decide (x5_1 < (l0.length : Int)) = false := decide_eq_false c3
    clear c3
    obtain rfl := Option.some.inj H
    go_wp2
    go_ret
    exact ⟨by first | rfl | (simp; done) | (simp [*]; done), by repeat (first | exact Drawn0.refl _ | apply Drawn0.step)⟩

end Go.Proofs.Ytfkecldlhngjhaa.XA

namespace Go.Proofs.Ytfkecldlhngjhaa.XA
open Go.RowKit Go.Proofs.YtfkecldlhngjhaaW.PrintWords Go.Proofs.YtfkecldlhngjhaaW.PrintLast Go.Proofs.YtfkecldlhngjhaaW.PrintMore
attribute [local go_sem] max2_int min2_int max_two min_two max_three min_three max_four min_four   -- for this text's walks alone
set_option linter.unusedVariables false
set_option linter.unusedSimpArgs false

/-! ### spec_ClocksOk: function 15 -/
def spec_ClocksOk.l0 : Nat → List Int → Int → Option (Bool)
 | 0, _, _ => none
 | k + 1, x0, x3 => if x3 < (x0.length : Int) then (if 0 ≤ x3 then ((spec_l1In.f (rd x0 x3) (-1000) 1000).bind fun t102 => (if t102 = true then (spec_ClocksOk.l0 k x0 (wrap64 (x3 + 1))) else (some false))) else (none)) else (some true)
def spec_ClocksOk.f (k : Nat) (l0 : List Int) : Option (Bool) := if (l0.length : Int) > 8 then (some false) else (spec_ClocksOk.l0 k l0 0)
theorem spec_ClocksOk.mono_l : ∀ k, (∀ y0 y1, LeO (spec_ClocksOk.l0 k y0 y1) (spec_ClocksOk.l0 (k + 1) y0 y1))
 | 0 => fun _ _ r h => by simp [spec_ClocksOk.l0] at h
 | k + 1 => by
  have ih0 := spec_ClocksOk.mono_l k
  ·
   intro y0 y1
   unfold spec_ClocksOk.l0
   repeat' first
   | (with_reducible exact ih0 _ _)
   | (with_reducible exact LeO.refl _)
   | (with_reducible exact LeO.none _)
   | (with_reducible refine LeO.ite ?_ ?_)
   | (with_reducible refine LeO.bind ?_ (fun _ => ?_))
   | exact ih0 _ _
   | exact LeO.none _
   | refine LeO.ite ?_ ?_
   | refine LeO.bind ?_ (fun _ => ?_)
theorem spec_ClocksOk.mono : ∀ a0 k, LeO (spec_ClocksOk.f k a0) (spec_ClocksOk.f (k + 1) a0) := by
 intro a0 k
 have ih0 := spec_ClocksOk.mono_l k
 unfold spec_ClocksOk.f
 repeat' first
   | (with_reducible exact ih0 _ _)
   | (with_reducible exact LeO.refl _)
   | (with_reducible exact LeO.none _)
   | (with_reducible refine LeO.ite ?_ ?_)
   | (with_reducible refine LeO.bind ?_ (fun _ => ?_))
   | exact ih0 _ _
   | exact LeO.none _
   | refine LeO.ite ?_ ?_
   | refine LeO.bind ?_ (fun _ => ?_)
set_option maxHeartbeats 8000000 in
set_option maxRecDepth 100000 in
theorem spec_ClocksOk.calls (k : Nat) (A0 : Option Addr) (c0 : Nat) (l0 : List Int) (r : Bool) (w : World) (hr0 : Kd.C (Kd.int .i64) w A0 l0.length l0) (hc0 : l0.length ≤ c0) (h : spec_ClocksOk.f k l0 = some r) :
  Calls Try.prog 15 #[.slice A0 l0.length c0] w fun e w' => e = .returned (.bool r) ∧ Drawn0 w w' := by
 have HR0 := Aside0.mk hr0
 have HC0 := Aside0.mk hc0
 clear hr0 hc0
 have H : (if (l0.length : Int) > 8 then (some false) else (spec_ClocksOk.l0 k l0 0)) = some r := h
 clear h
 by_cases c2 : (l0.length : Int) > 8
 ·
  rw [if_pos c2] at H
  have c2b0 : decide (8 < (l0.length : Int)) = true := decide_eq_true c2
  have c2b1 : decide (8 < l0.length) = true := decide_eq_true (by omega)
  clear c2
  obtain rfl := Option.some.inj H
  go_enter Try.func15, Try.ntmps15
  go_wp2
  go_ret
  exact ⟨by first | rfl | (simp; done) | (simp [*]; done), by repeat (first | exact Drawn0.refl _ | apply Drawn0.step)⟩
 ·
  rw [if_neg c2] at H
  have c2b0 : decide (8 < (l0.length : Int)) = false := decide_eq_false c2
  have c2b1 : decide (8 < l0.length) = false := decide_eq_false (by omega)
  clear c2
  have H' := Aside0.mk H
  clear H
  go_enter Try.func15, Try.ntmps15
  go_wp2
  go_loopg [3] k (fun kq v3 w' => ∃ (x3_1 : Int), v3 = .int .i64 x3_1 ∧ Aside0 (spec_ClocksOk.l0 kq l0 x3_1 = some r) ∧ Aside0 (kq ≤ k) ∧ Drawn0 w w')
  case atStart => exact ⟨(0), (by first | rfl | (simp; done) | (simp [*]; done)), H', ⟨Nat.le_refl _⟩, by repeat (first | exact Drawn0.refl _ | apply Drawn0.step)⟩
  case round =>
   clear H'
   try clear c1
   try clear c2
   try clear c2b0
   try clear c2b1
   try clear p2
   obtain ⟨x3_1, rfl, HA, HK1, ⟨m1, rfl⟩⟩ := hrel
   cases gk with
   | zero => exact absurd HA.out (by simp [spec_ClocksOk.l0])
   | succ k1 =>
    have H := HA.out
    clear HA
    simp only [spec_ClocksOk.l0] at H
    by_cases c3 : x3_1 < (l0.length : Int)
    ·
     rw [if_pos c3] at H
     have c3b0 : decide (x3_1 < (l0.length : Int)) = true := decide_eq_true c3
     clear c3
     by_cases c4 : 0 ≤ x3_1
     ·
      rw [if_pos c4] at H
      have c4b0 : decide (0 ≤ x3_1) = true := decide_eq_true c4
      clear c4
      replace H := Option.bind_eq_some_iff.mp H
      obtain ⟨t102, A50, H⟩ := H
      replace H : (if t102 = true then (spec_ClocksOk.l0 k1 l0 (wrap64 (x3_1 + 1))) else (some false)) = some r := H
      have A5 := Aside0.mk A50
      clear A50
      by_cases c6 : t102 = true
      ·
       subst c6
       have H1 : (spec_ClocksOk.l0 k1 l0 (wrap64 (x3_1 + 1))) = some r := by rw [if_pos rfl] at H; exact H
       clear H
       have H := H1
       clear H1
       have H' := Aside0.mk H
       clear H
       have p101 : 0 ≤ (x3_1 : Int) := of_decide_eq_true (by first | (with_reducible assumption) | assumption)
       have q101 : x3_1 < (l0.length : Int) := of_decide_eq_true (by first | (with_reducible assumption) | assumption)
       obtain ⟨ad101, e101, hx101_0⟩ := Kd.at_int HR0.out x3_1 p101 q101
       cases e101
       replace p101 := eq_true p101
       replace q101 := eq_true q101
       go_wp2_with (first | ((with_reducible refine gate_callee (f := 51) rfl ?_); refine goesL_ (some 17) rfl rfl Try.func51 (by kernel_rfl) rfl #[.int .i64 (rd l0 x3_1), .int .i64 (-1000), .int .i64 1000] rfl (by (try simp only [List.map_toArray, List.map_cons, List.map_nil]); first | done | rfl | (simp only [List.length_drop, List.length_take]; rfl)) ?_; (with_reducible refine (spec_l1In.calls (rd l0 x3_1) (-1000) 1000 true _ A5.out).mono ?_); rintro e w' ⟨rfl, ⟨nd, rfl⟩⟩; refine ⟨_, rfl, ?_⟩))
       go_roundg k1
       case measure => have := HK1.out; omega
       case rel => exact ⟨(wrap64 (x3_1 + 1)), (by first | rfl | (simp; done) | (simp [*]; done)), H', ⟨by have := HK1.out; omega⟩, by repeat (first | exact Drawn0.refl _ | apply Drawn0.step)⟩
      ·
       replace c6 := Bool.eq_false_iff.mpr c6
       subst c6
       have H1 : (some false) = some r := by rw [if_neg (show ¬ (false = true) by decide)] at H; exact H
       clear H
       have H := H1
       clear H1
       obtain rfl := Option.some.inj H
       have p101 : 0 ≤ (x3_1 : Int) := of_decide_eq_true (by first | (with_reducible assumption) | assumption)
       have q101 : x3_1 < (l0.length : Int) := of_decide_eq_true (by first | (with_reducible assumption) | assumption)
       obtain ⟨ad101, e101, hx101_0⟩ := Kd.at_int HR0.out x3_1 p101 q101
       cases e101
       replace p101 := eq_true p101
       replace q101 := eq_true q101
       go_wp2_with (first | ((with_reducible refine gate_callee (f := 51) rfl ?_); refine goesL_ (some 17) rfl rfl Try.func51 (by kernel_rfl) rfl #[.int .i64 (rd l0 x3_1), .int .i64 (-1000), .int .i64 1000] rfl (by (try simp only [List.map_toArray, List.map_cons, List.map_nil]); first | done | rfl | (simp only [List.length_drop, List.length_take]; rfl)) ?_; (with_reducible refine (spec_l1In.calls (rd l0 x3_1) (-1000) 1000 false _ A5.out).mono ?_); rintro e w' ⟨rfl, ⟨nd, rfl⟩⟩; refine ⟨_, rfl, ?_⟩))
       go_ret
       exact ⟨by first | rfl | (simp; done) | (simp [*]; done), by repeat (first | exact Drawn0.refl _ | apply Drawn0.step)⟩
     ·
      rw [if_neg c4] at H
      exact absurd H (by simp)
    ·
     rw [if_neg c3] at H
     have c3b0 : decide (x3_1 < (l0.length : Int)) = false := decide_eq_false c3
     clear c3
     obtain rfl := Option.some.inj H
     go_wp2
     go_ret
     exact ⟨by first | rfl | (simp; done) | (simp [*]; done), by repeat (first | exact Drawn0.refl _ | apply Drawn0.step)⟩

end Go.Proofs.Ytfkecldlhngjhaa.XA

namespace Go.Proofs.Ytfkecldlhngjhaa.XA
open Go.RowKit Go.Proofs.YtfkecldlhngjhaaW.PrintWords Go.Proofs.YtfkecldlhngjhaaW.PrintLast Go.Proofs.YtfkecldlhngjhaaW.PrintMore
attribute [local go_sem] max2_int min2_int max_two min_two max_three min_three max_four min_four   -- for this text's walks alone
set_option linter.unusedVariables false
set_option linter.unusedSimpArgs false

/-! ### impl_ClocksOk_1: function 53 -/
def impl_ClocksOk_1.f (a0 : Int) : Option (Bool) := (impl_within.f a0 (-1000) 1000).bind fun t101 => (some t101)
set_option maxHeartbeats 8000000 in
set_option maxRecDepth 100000 in
theorem impl_ClocksOk_1.calls (a0 : Int) (r : Bool) (w : World) (h : impl_ClocksOk_1.f a0 = some r) :
  Calls Try.prog 53 #[.int .i64 a0] w fun e w' => e = .returned (.bool r) ∧ Drawn0 w w' := by
 have H : ((impl_within.f a0 (-1000) 1000).bind fun t101 => (some t101)) = some r := h
 clear h
 replace H := Option.bind_eq_some_iff.mp H
 obtain ⟨t101, A20, H⟩ := H
 replace H : (some t101) = some r := H
 have A2 := Aside0.mk A20
 clear A20
 obtain rfl := Option.some.inj H
 go_enter Try.func53, Try.ntmps53
 go_wp2_with (first | ((with_reducible refine gate_callee (f := 54) rfl ?_); refine goesL_ (some 4) rfl rfl Try.func54 (by kernel_rfl) rfl #[.int .i64 a0, .int .i64 (-1000), .int .i64 1000] rfl (by (try simp only [List.map_toArray, List.map_cons, List.map_nil]); first | done | rfl | (simp only [List.length_drop, List.length_take]; rfl)) ?_; (with_reducible refine (impl_within.calls a0 (-1000) 1000 t101 _ A2.out).mono ?_); rintro e w' ⟨rfl, ⟨nd, rfl⟩⟩; refine ⟨_, rfl, ?_⟩))
 go_ret
 exact ⟨by first | rfl | (simp; done) | (simp [*]; done), by repeat (first | exact Drawn0.refl _ | apply Drawn0.step)⟩

end Go.Proofs.Ytfkecldlhngjhaa.XA
