-- Written by xprint.py, this session's program over the kit's print
import Derived.Test.YtceilcdhflcbpaaXA0
import Derived.Test.YtceilcdhflcbpaaXAf9
import Derived.Test.YtceilcdhflcbpaaXAf22
import Derived.Test.YtceilcdhflcbpaaXAf11
import Derived.Test.YtceilcdhflcbpaaXAf13
import Derived.Test.YtceilcdhflcbpaaXAf19
import Derived.Test.YtceilcdhflcbpaaXAf20
import Derived.Test.YtceilcdhflcbpaaXAf21
import Derived.Test.YtceilcdhflcbpaaXAf23
namespace Go.Proofs.Ytceilcdhflcbpaa.XA
open Go.RowKit Go.Proofs.YtceilcdhflcbpaaW.PrintWords Go.Proofs.YtceilcdhflcbpaaW.PrintLast Go.Proofs.YtceilcdhflcbpaaW.PrintMore
attribute [local go_sem] max2_int min2_int max_two min_two max_three min_three max_four min_four   -- for this text's walks alone
set_option linter.unusedVariables false
set_option linter.unusedSimpArgs false

/-! ### laws_FnExactHavePut: function 6 -/
def laws_FnExactHavePut.f (k : Nat) (l0 : List (S38)) (a1_0 : Int) (a1_1 : Int) (a1_2 : Int) (a1_3 : Int) (a1_4 : Int) : Option (Bool) := (laws_szHaveS.f l0 1048576).bind fun t102 => (if t102 < 0 then (some true) else ((laws_toHaveS.f k l0).bind fun t103 => ((laws_toHave.f a1_0 a1_1 a1_2 a1_3 a1_4).bind fun bt106 => ((spec_HavePut.f k t103 bt106.1 bt106.2.1 bt106.2.2.1 bt106.2.2.2.1 bt106.2.2.2.2).bind fun bt111 => ((laws_toHaveS.f k l0).bind fun t115 => ((laws_toHave.f a1_0 a1_1 a1_2 a1_3 a1_4).bind fun bt118 => ((impl_HavePut.f k t115 bt118.1 bt118.2.1 bt118.2.2.1 bt118.2.2.2.1 bt118.2.2.2.2).bind fun bt123 => ((laws_eqHaveS.f k bt123.1 bt111.1).bind fun t127 => (if t127 = true then (if (bt123.2 != bt111.2) = true then (some false) else ((laws_toHaveS.f k l0).bind fun t128 => ((laws_eqHaveS.f k t115 t128).bind fun t131 => (if t131 = true then ((laws_markHaveS.f k t115 1).bind fun bt132 => (if bt132.1 < 0 then (some false) else ((laws_eqHaveS.f k bt123.1 bt111.1).bind fun t134 => (if t134 = true then ((laws_markHaveS.f k bt123.1 1).bind fun bt135 => ((laws_heldHaveS.f k bt135.2 1).bind fun t137 => (if t137 < 0 then (some false) else (if t137 = bt135.1 then ((laws_toHaveS.f k l0).bind fun t138 => ((laws_toHave.f a1_0 a1_1 a1_2 a1_3 a1_4).bind fun bt141 => ((impl_HavePut.f k t138 bt141.1 bt141.2.1 bt141.2.2.1 bt141.2.2.2.1 bt141.2.2.2.2).bind fun bt146 => ((laws_eqHaveS.f k bt146.1 bt111.1).bind fun t150 => (if t150 = true then (if (bt146.2 != bt111.2) = true then (some false) else ((laws_heldHaveS.f k bt135.2 1).bind fun t151 => (if t151 < 0 then (some false) else (if t151 = bt135.1 then (some true) else (some false))))) else (some false)))))) else (some false))))) else (some false))))) else (some false))))) else (some false))))))))))
theorem laws_FnExactHavePut.mono : ∀ a0 a1 a2 a3 a4 a5 k, LeO (laws_FnExactHavePut.f k a0 a1 a2 a3 a4 a5) (laws_FnExactHavePut.f (k + 1) a0 a1 a2 a3 a4 a5) := by
 intro a0 a1 a2 a3 a4 a5 k
 unfold laws_FnExactHavePut.f
 repeat' first
   | (with_reducible exact impl_HavePut.mono _ _ _ _ _ _ _)
   | (with_reducible exact laws_eqHaveS.mono _ _ _)
   | (with_reducible exact laws_heldHaveS.mono _ _ _)
   | (with_reducible exact laws_markHaveS.mono _ _ _)
   | (with_reducible exact laws_toHaveS.mono _ _)
   | (with_reducible exact spec_HavePut.mono _ _ _ _ _ _ _)
   | (with_reducible exact LeO.refl _)
   | (with_reducible exact LeO.none _)
   | (with_reducible refine LeO.ite ?_ ?_)
   | (with_reducible refine LeO.bind ?_ (fun _ => ?_))
   | exact impl_HavePut.mono _ _ _ _ _ _ _
   | exact laws_eqHaveS.mono _ _ _
   | exact laws_heldHaveS.mono _ _ _
   | exact laws_markHaveS.mono _ _ _
   | exact laws_toHaveS.mono _ _
   | exact spec_HavePut.mono _ _ _ _ _ _ _
   | exact LeO.none _
   | refine LeO.ite ?_ ?_
   | refine LeO.bind ?_ (fun _ => ?_)
def laws_FnExactHavePut.T5 : Bool × List (List Nat × List Nat) := (true, [([], []), ([0], [0]), ([], []), ([2, 1], [2]), ([1, 3, 3], [1, 3]), ([4], [4]), ([5], [5]), ([5], [5]), ([6, 4, 0, 1, 2, 3, 4, 5, 6], [6]), ([7, 8, 0, 1, 2, 3, 4, 5, 6, 7, 8], [7])])
def laws_FnExactHavePut.B5 : List Nat := [0, 1, 0, 7, 15, 31, 63, 63, 127, 511]
theorem laws_FnExactHavePut.tab5 : rtab .any (opsOf Try.f6 5) = laws_FnExactHavePut.T5 := by kernel_rfl
theorem laws_FnExactHavePut.bits5 : waitsOk laws_FnExactHavePut.T5.2 laws_FnExactHavePut.B5 = true := by kernel_rfl
def laws_FnExactHavePut.T24 : Bool × List (List Nat × List Nat) := (true, [([], []), ([0], [0]), ([], []), ([2, 1], [2]), ([1, 3, 3], [1, 3]), ([4], [4]), ([5], [5]), ([5], [5]), ([6, 4, 0, 1, 2, 3, 4, 5, 6], [6]), ([7, 8, 0, 1, 2, 3, 4, 5, 6, 7, 8], [7])])
def laws_FnExactHavePut.B24 : List Nat := [0, 1, 0, 7, 15, 31, 63, 63, 127, 511]
theorem laws_FnExactHavePut.tab24 : rtab .any (opsOf Try.f6 24) = laws_FnExactHavePut.T24 := by kernel_rfl
theorem laws_FnExactHavePut.bits24 : waitsOk laws_FnExactHavePut.T24.2 laws_FnExactHavePut.B24 = true := by kernel_rfl
set_option maxHeartbeats 8000000 in
set_option maxRecDepth 100000 in
theorem laws_FnExactHavePut.calls (k : Nat) (A0 : Option Addr) (c0 : Nat) (l0 : List (S38)) (a1_0 : Int) (a1_1 : Int) (a1_2 : Int) (a1_3 : Int) (a1_4 : Int) (r : Bool) (w : World) (hr0 : Kd.C k38 w A0 l0.length l0) (hc0 : l0.length ≤ c0) (hrt : r = true) (h : laws_FnExactHavePut.f k l0 a1_0 a1_1 a1_2 a1_3 a1_4 = some r) :
  Calls Try.prog 6 #[.slice A0 l0.length c0, .agg #[.int .i64 a1_0, .int .i64 a1_1, .int .i64 a1_2, .int .i64 a1_3, .int .i64 a1_4]] w fun e w' => e = .returned (.bool r) ∧ Below w.heap.size w w' := by
 have hu38 := Try.underlying38
 have HR0 := Aside0.mk hr0
 have HC0 := Aside0.mk hc0
 clear hr0 hc0
 have HB := Aside0.mk (Below.refl w.heap.size w)
 have H : ((laws_szHaveS.f l0 1048576).bind fun t102 => (if t102 < 0 then (some true) else ((laws_toHaveS.f k l0).bind fun t103 => ((laws_toHave.f a1_0 a1_1 a1_2 a1_3 a1_4).bind fun bt106 => ((spec_HavePut.f k t103 bt106.1 bt106.2.1 bt106.2.2.1 bt106.2.2.2.1 bt106.2.2.2.2).bind fun bt111 => ((laws_toHaveS.f k l0).bind fun t115 => ((laws_toHave.f a1_0 a1_1 a1_2 a1_3 a1_4).bind fun bt118 => ((impl_HavePut.f k t115 bt118.1 bt118.2.1 bt118.2.2.1 bt118.2.2.2.1 bt118.2.2.2.2).bind fun bt123 => ((laws_eqHaveS.f k bt123.1 bt111.1).bind fun t127 => (if t127 = true then (if (bt123.2 != bt111.2) = true then (some false) else ((laws_toHaveS.f k l0).bind fun t128 => ((laws_eqHaveS.f k t115 t128).bind fun t131 => (if t131 = true then ((laws_markHaveS.f k t115 1).bind fun bt132 => (if bt132.1 < 0 then (some false) else ((laws_eqHaveS.f k bt123.1 bt111.1).bind fun t134 => (if t134 = true then ((laws_markHaveS.f k bt123.1 1).bind fun bt135 => ((laws_heldHaveS.f k bt135.2 1).bind fun t137 => (if t137 < 0 then (some false) else (if t137 = bt135.1 then ((laws_toHaveS.f k l0).bind fun t138 => ((laws_toHave.f a1_0 a1_1 a1_2 a1_3 a1_4).bind fun bt141 => ((impl_HavePut.f k t138 bt141.1 bt141.2.1 bt141.2.2.1 bt141.2.2.2.1 bt141.2.2.2.2).bind fun bt146 => ((laws_eqHaveS.f k bt146.1 bt111.1).bind fun t150 => (if t150 = true then (if (bt146.2 != bt111.2) = true then (some false) else ((laws_heldHaveS.f k bt135.2 1).bind fun t151 => (if t151 < 0 then (some false) else (if t151 = bt135.1 then (some true) else (some false))))) else (some false)))))) else (some false))))) else (some false))))) else (some false))))) else (some false))))))))))) = some r := h
 clear h
 replace H := Option.bind_eq_some_iff.mp H
 obtain ⟨t102, A30, H⟩ := H
 replace H : (if t102 < 0 then (some true) else ((laws_toHaveS.f k l0).bind fun t103 => ((laws_toHave.f a1_0 a1_1 a1_2 a1_3 a1_4).bind fun bt106 => ((spec_HavePut.f k t103 bt106.1 bt106.2.1 bt106.2.2.1 bt106.2.2.2.1 bt106.2.2.2.2).bind fun bt111 => ((laws_toHaveS.f k l0).bind fun t115 => ((laws_toHave.f a1_0 a1_1 a1_2 a1_3 a1_4).bind fun bt118 => ((impl_HavePut.f k t115 bt118.1 bt118.2.1 bt118.2.2.1 bt118.2.2.2.1 bt118.2.2.2.2).bind fun bt123 => ((laws_eqHaveS.f k bt123.1 bt111.1).bind fun t127 => (if t127 = true then (if (bt123.2 != bt111.2) = true then (some false) else ((laws_toHaveS.f k l0).bind fun t128 => ((laws_eqHaveS.f k t115 t128).bind fun t131 => (if t131 = true then ((laws_markHaveS.f k t115 1).bind fun bt132 => (if bt132.1 < 0 then (some false) else ((laws_eqHaveS.f k bt123.1 bt111.1).bind fun t134 => (if t134 = true then ((laws_markHaveS.f k bt123.1 1).bind fun bt135 => ((laws_heldHaveS.f k bt135.2 1).bind fun t137 => (if t137 < 0 then (some false) else (if t137 = bt135.1 then ((laws_toHaveS.f k l0).bind fun t138 => ((laws_toHave.f a1_0 a1_1 a1_2 a1_3 a1_4).bind fun bt141 => ((impl_HavePut.f k t138 bt141.1 bt141.2.1 bt141.2.2.1 bt141.2.2.2.1 bt141.2.2.2.2).bind fun bt146 => ((laws_eqHaveS.f k bt146.1 bt111.1).bind fun t150 => (if t150 = true then (if (bt146.2 != bt111.2) = true then (some false) else ((laws_heldHaveS.f k bt135.2 1).bind fun t151 => (if t151 < 0 then (some false) else (if t151 = bt135.1 then (some true) else (some false))))) else (some false)))))) else (some false))))) else (some false))))) else (some false))))) else (some false)))))))))) = some r := H
 have A3 := Aside0.mk A30
 clear A30
 by_cases c4 : t102 < 0
 ·
  rw [if_pos c4] at H
  have c4b0 : decide (t102 < 0) = true := decide_eq_true c4
  clear c4
  obtain rfl := Option.some.inj H
  go_enter Try.func6, Try.ntmps6
  go_wp2_with (first | ((with_reducible refine gate_dst (N := 3) rfl ?_); refine box_event ?hg (N := 3) ?hd (cs := #[.int .i64 a1_0, .int .i64 a1_1, .int .i64 a1_2, .int .i64 a1_3, .int .i64 a1_4]) (t := 38) ?hr ?_; (case hd => rfl); (case hg => rfl); (case hr => first | (go_simp; done) | (go_simp; rfl)); intro gb101 hg w5 hbox hb; have n0_ := Aside0.mk (below_step (by repeat (first | (with_reducible first | exact HB.out | apply below_alloc | apply pw_below_drewN | apply below_drew1) | exact HB.out)) hb); have n1_ := Aside0.mk (hbox); have n2_ := Aside0.mk ((by rw [hg]; exact (below_size (by repeat (first | (with_reducible first | exact HB.out | apply below_alloc | apply pw_below_drewN | apply below_drew1) | exact HB.out))) : w.heap.size ≤ gb101)); have n3_ := Aside0.mk ((by rw [hg]; exact (below_size (by repeat (first | (with_reducible first | exact HB.out | apply below_alloc | apply pw_below_drewN | apply below_drew1) | exact HB.out))) : w.heap.size ≤ gb101)); clear HB; have HB := n0_; have BK101 := n1_; have GW101 := n2_; have GE101 := n3_; clear n0_ n1_ n2_ n3_; clear hb hbox hg) | ((with_reducible refine gate_callee (f := 9) rfl ?_); refine goesL_ (some 18) rfl rfl Try.func9 (by kernel_rfl) rfl #[.slice A0 l0.length c0, .int .i64 1048576] rfl (by (try simp only [List.map_toArray, List.map_cons, List.map_nil]); first | done | rfl | (simp only [List.length_drop, List.length_take]; rfl)) ?_; (with_reducible refine (laws_szHaveS.calls _ _ l0 1048576 t102 _ ?side1 ?side2 A3.out).mono ?_); (case side1 => repeat (first | exact (Kd.C_below HR0.out HB.out) | (with_reducible refine Kd.C_alloc ?_ _) | (with_reducible refine Kd.C_drewN ?_ _) | (with_reducible refine Kd.C_drew ?_))); (case side2 => exact HC0.out); rintro e w' ⟨rfl, ⟨nd, rfl⟩⟩; refine ⟨_, rfl, ?_⟩))
  go_ret
  exact ⟨by first | rfl | (simp [errW_none, errW_some] <;> rfl) | (simp [*, errW_none, errW_some] <;> rfl), by repeat (first | (with_reducible first | exact HB.out | apply below_alloc | apply pw_below_drewN | apply below_drew1) | exact HB.out)⟩
 ·
  rw [if_neg c4] at H
  have c4b0 : decide (t102 < 0) = false := decide_eq_false c4
  clear c4
  replace H := Option.bind_eq_some_iff.mp H
  obtain ⟨t103, A60, H⟩ := H
  replace H : ((laws_toHave.f a1_0 a1_1 a1_2 a1_3 a1_4).bind fun bt106 => ((spec_HavePut.f k t103 bt106.1 bt106.2.1 bt106.2.2.1 bt106.2.2.2.1 bt106.2.2.2.2).bind fun bt111 => ((laws_toHaveS.f k l0).bind fun t115 => ((laws_toHave.f a1_0 a1_1 a1_2 a1_3 a1_4).bind fun bt118 => ((impl_HavePut.f k t115 bt118.1 bt118.2.1 bt118.2.2.1 bt118.2.2.2.1 bt118.2.2.2.2).bind fun bt123 => ((laws_eqHaveS.f k bt123.1 bt111.1).bind fun t127 => (if t127 = true then (if (bt123.2 != bt111.2) = true then (some false) else ((laws_toHaveS.f k l0).bind fun t128 => ((laws_eqHaveS.f k t115 t128).bind fun t131 => (if t131 = true then ((laws_markHaveS.f k t115 1).bind fun bt132 => (if bt132.1 < 0 then (some false) else ((laws_eqHaveS.f k bt123.1 bt111.1).bind fun t134 => (if t134 = true then ((laws_markHaveS.f k bt123.1 1).bind fun bt135 => ((laws_heldHaveS.f k bt135.2 1).bind fun t137 => (if t137 < 0 then (some false) else (if t137 = bt135.1 then ((laws_toHaveS.f k l0).bind fun t138 => ((laws_toHave.f a1_0 a1_1 a1_2 a1_3 a1_4).bind fun bt141 => ((impl_HavePut.f k t138 bt141.1 bt141.2.1 bt141.2.2.1 bt141.2.2.2.1 bt141.2.2.2.2).bind fun bt146 => ((laws_eqHaveS.f k bt146.1 bt111.1).bind fun t150 => (if t150 = true then (if (bt146.2 != bt111.2) = true then (some false) else ((laws_heldHaveS.f k bt135.2 1).bind fun t151 => (if t151 < 0 then (some false) else (if t151 = bt135.1 then (some true) else (some false))))) else (some false)))))) else (some false))))) else (some false))))) else (some false))))) else (some false)))))))) = some r := H
  have A6 := Aside0.mk A60
  clear A60
  replace H := Option.bind_eq_some_iff.mp H
  obtain ⟨⟨t106, t107, t108, t109, t110⟩, A70, H⟩ := H
  replace H : ((spec_HavePut.f k t103 t106 t107 t108 t109 t110).bind fun bt111 => ((laws_toHaveS.f k l0).bind fun t115 => ((laws_toHave.f a1_0 a1_1 a1_2 a1_3 a1_4).bind fun bt118 => ((impl_HavePut.f k t115 bt118.1 bt118.2.1 bt118.2.2.1 bt118.2.2.2.1 bt118.2.2.2.2).bind fun bt123 => ((laws_eqHaveS.f k bt123.1 bt111.1).bind fun t127 => (if t127 = true then (if (bt123.2 != bt111.2) = true then (some false) else ((laws_toHaveS.f k l0).bind fun t128 => ((laws_eqHaveS.f k t115 t128).bind fun t131 => (if t131 = true then ((laws_markHaveS.f k t115 1).bind fun bt132 => (if bt132.1 < 0 then (some false) else ((laws_eqHaveS.f k bt123.1 bt111.1).bind fun t134 => (if t134 = true then ((laws_markHaveS.f k bt123.1 1).bind fun bt135 => ((laws_heldHaveS.f k bt135.2 1).bind fun t137 => (if t137 < 0 then (some false) else (if t137 = bt135.1 then ((laws_toHaveS.f k l0).bind fun t138 => ((laws_toHave.f a1_0 a1_1 a1_2 a1_3 a1_4).bind fun bt141 => ((impl_HavePut.f k t138 bt141.1 bt141.2.1 bt141.2.2.1 bt141.2.2.2.1 bt141.2.2.2.2).bind fun bt146 => ((laws_eqHaveS.f k bt146.1 bt111.1).bind fun t150 => (if t150 = true then (if (bt146.2 != bt111.2) = true then (some false) else ((laws_heldHaveS.f k bt135.2 1).bind fun t151 => (if t151 < 0 then (some false) else (if t151 = bt135.1 then (some true) else (some false))))) else (some false)))))) else (some false))))) else (some false))))) else (some false))))) else (some false))))))) = some r := H
  have A7 := Aside0.mk A70
  clear A70
  replace H := Option.bind_eq_some_iff.mp H
  obtain ⟨⟨t111, t114⟩, A80, H⟩ := H
  replace H : ((laws_toHaveS.f k l0).bind fun t115 => ((laws_toHave.f a1_0 a1_1 a1_2 a1_3 a1_4).bind fun bt118 => ((impl_HavePut.f k t115 bt118.1 bt118.2.1 bt118.2.2.1 bt118.2.2.2.1 bt118.2.2.2.2).bind fun bt123 => ((laws_eqHaveS.f k bt123.1 t111).bind fun t127 => (if t127 = true then (if (bt123.2 != t114) = true then (some false) else ((laws_toHaveS.f k l0).bind fun t128 => ((laws_eqHaveS.f k t115 t128).bind fun t131 => (if t131 = true then ((laws_markHaveS.f k t115 1).bind fun bt132 => (if bt132.1 < 0 then (some false) else ((laws_eqHaveS.f k bt123.1 t111).bind fun t134 => (if t134 = true then ((laws_markHaveS.f k bt123.1 1).bind fun bt135 => ((laws_heldHaveS.f k bt135.2 1).bind fun t137 => (if t137 < 0 then (some false) else (if t137 = bt135.1 then ((laws_toHaveS.f k l0).bind fun t138 => ((laws_toHave.f a1_0 a1_1 a1_2 a1_3 a1_4).bind fun bt141 => ((impl_HavePut.f k t138 bt141.1 bt141.2.1 bt141.2.2.1 bt141.2.2.2.1 bt141.2.2.2.2).bind fun bt146 => ((laws_eqHaveS.f k bt146.1 t111).bind fun t150 => (if t150 = true then (if (bt146.2 != t114) = true then (some false) else ((laws_heldHaveS.f k bt135.2 1).bind fun t151 => (if t151 < 0 then (some false) else (if t151 = bt135.1 then (some true) else (some false))))) else (some false)))))) else (some false))))) else (some false))))) else (some false))))) else (some false)))))) = some r := H
  have A8 := Aside0.mk A80
  clear A80
  replace H := Option.bind_eq_some_iff.mp H
  obtain ⟨t115, A90, H⟩ := H
  replace H : ((laws_toHave.f a1_0 a1_1 a1_2 a1_3 a1_4).bind fun bt118 => ((impl_HavePut.f k t115 bt118.1 bt118.2.1 bt118.2.2.1 bt118.2.2.2.1 bt118.2.2.2.2).bind fun bt123 => ((laws_eqHaveS.f k bt123.1 t111).bind fun t127 => (if t127 = true then (if (bt123.2 != t114) = true then (some false) else ((laws_toHaveS.f k l0).bind fun t128 => ((laws_eqHaveS.f k t115 t128).bind fun t131 => (if t131 = true then ((laws_markHaveS.f k t115 1).bind fun bt132 => (if bt132.1 < 0 then (some false) else ((laws_eqHaveS.f k bt123.1 t111).bind fun t134 => (if t134 = true then ((laws_markHaveS.f k bt123.1 1).bind fun bt135 => ((laws_heldHaveS.f k bt135.2 1).bind fun t137 => (if t137 < 0 then (some false) else (if t137 = bt135.1 then ((laws_toHaveS.f k l0).bind fun t138 => ((laws_toHave.f a1_0 a1_1 a1_2 a1_3 a1_4).bind fun bt141 => ((impl_HavePut.f k t138 bt141.1 bt141.2.1 bt141.2.2.1 bt141.2.2.2.1 bt141.2.2.2.2).bind fun bt146 => ((laws_eqHaveS.f k bt146.1 t111).bind fun t150 => (if t150 = true then (if (bt146.2 != t114) = true then (some false) else ((laws_heldHaveS.f k bt135.2 1).bind fun t151 => (if t151 < 0 then (some false) else (if t151 = bt135.1 then (some true) else (some false))))) else (some false)))))) else (some false))))) else (some false))))) else (some false))))) else (some false))))) = some r := H
  have A9 := Aside0.mk A90
  clear A90
  replace H := Option.bind_eq_some_iff.mp H
  obtain ⟨⟨t118, t119, t120, t121, t122⟩, A100, H⟩ := H
  replace H : ((impl_HavePut.f k t115 t118 t119 t120 t121 t122).bind fun bt123 => ((laws_eqHaveS.f k bt123.1 t111).bind fun t127 => (if t127 = true then (if (bt123.2 != t114) = true then (some false) else ((laws_toHaveS.f k l0).bind fun t128 => ((laws_eqHaveS.f k t115 t128).bind fun t131 => (if t131 = true then ((laws_markHaveS.f k t115 1).bind fun bt132 => (if bt132.1 < 0 then (some false) else ((laws_eqHaveS.f k bt123.1 t111).bind fun t134 => (if t134 = true then ((laws_markHaveS.f k bt123.1 1).bind fun bt135 => ((laws_heldHaveS.f k bt135.2 1).bind fun t137 => (if t137 < 0 then (some false) else (if t137 = bt135.1 then ((laws_toHaveS.f k l0).bind fun t138 => ((laws_toHave.f a1_0 a1_1 a1_2 a1_3 a1_4).bind fun bt141 => ((impl_HavePut.f k t138 bt141.1 bt141.2.1 bt141.2.2.1 bt141.2.2.2.1 bt141.2.2.2.2).bind fun bt146 => ((laws_eqHaveS.f k bt146.1 t111).bind fun t150 => (if t150 = true then (if (bt146.2 != t114) = true then (some false) else ((laws_heldHaveS.f k bt135.2 1).bind fun t151 => (if t151 < 0 then (some false) else (if t151 = bt135.1 then (some true) else (some false))))) else (some false)))))) else (some false))))) else (some false))))) else (some false))))) else (some false)))) = some r := H
  have A10 := Aside0.mk A100
  clear A100
  replace H := Option.bind_eq_some_iff.mp H
  obtain ⟨⟨t123, t126⟩, A110, H⟩ := H
  replace H : ((laws_eqHaveS.f k t123 t111).bind fun t127 => (if t127 = true then (if (t126 != t114) = true then (some false) else ((laws_toHaveS.f k l0).bind fun t128 => ((laws_eqHaveS.f k t115 t128).bind fun t131 => (if t131 = true then ((laws_markHaveS.f k t115 1).bind fun bt132 => (if bt132.1 < 0 then (some false) else ((laws_eqHaveS.f k t123 t111).bind fun t134 => (if t134 = true then ((laws_markHaveS.f k t123 1).bind fun bt135 => ((laws_heldHaveS.f k bt135.2 1).bind fun t137 => (if t137 < 0 then (some false) else (if t137 = bt135.1 then ((laws_toHaveS.f k l0).bind fun t138 => ((laws_toHave.f a1_0 a1_1 a1_2 a1_3 a1_4).bind fun bt141 => ((impl_HavePut.f k t138 bt141.1 bt141.2.1 bt141.2.2.1 bt141.2.2.2.1 bt141.2.2.2.2).bind fun bt146 => ((laws_eqHaveS.f k bt146.1 t111).bind fun t150 => (if t150 = true then (if (bt146.2 != t114) = true then (some false) else ((laws_heldHaveS.f k bt135.2 1).bind fun t151 => (if t151 < 0 then (some false) else (if t151 = bt135.1 then (some true) else (some false))))) else (some false)))))) else (some false))))) else (some false))))) else (some false))))) else (some false))) = some r := H
  have A11 := Aside0.mk A110
  clear A110
  replace H := Option.bind_eq_some_iff.mp H
  obtain ⟨t127, A120, H⟩ := H
  replace H : (if t127 = true then (if (t126 != t114) = true then (some false) else ((laws_toHaveS.f k l0).bind fun t128 => ((laws_eqHaveS.f k t115 t128).bind fun t131 => (if t131 = true then ((laws_markHaveS.f k t115 1).bind fun bt132 => (if bt132.1 < 0 then (some false) else ((laws_eqHaveS.f k t123 t111).bind fun t134 => (if t134 = true then ((laws_markHaveS.f k t123 1).bind fun bt135 => ((laws_heldHaveS.f k bt135.2 1).bind fun t137 => (if t137 < 0 then (some false) else (if t137 = bt135.1 then ((laws_toHaveS.f k l0).bind fun t138 => ((laws_toHave.f a1_0 a1_1 a1_2 a1_3 a1_4).bind fun bt141 => ((impl_HavePut.f k t138 bt141.1 bt141.2.1 bt141.2.2.1 bt141.2.2.2.1 bt141.2.2.2.2).bind fun bt146 => ((laws_eqHaveS.f k bt146.1 t111).bind fun t150 => (if t150 = true then (if (bt146.2 != t114) = true then (some false) else ((laws_heldHaveS.f k bt135.2 1).bind fun t151 => (if t151 < 0 then (some false) else (if t151 = bt135.1 then (some true) else (some false))))) else (some false)))))) else (some false))))) else (some false))))) else (some false))))) else (some false)) = some r := H
  have A12 := Aside0.mk A120
  clear A120
  by_cases c13 : t127 = true
  ·
   subst c13
   have H1 : (if (t126 != t114) = true then (some false) else ((laws_toHaveS.f k l0).bind fun t128 => ((laws_eqHaveS.f k t115 t128).bind fun t131 => (if t131 = true then ((laws_markHaveS.f k t115 1).bind fun bt132 => (if bt132.1 < 0 then (some false) else ((laws_eqHaveS.f k t123 t111).bind fun t134 => (if t134 = true then ((laws_markHaveS.f k t123 1).bind fun bt135 => ((laws_heldHaveS.f k bt135.2 1).bind fun t137 => (if t137 < 0 then (some false) else (if t137 = bt135.1 then ((laws_toHaveS.f k l0).bind fun t138 => ((laws_toHave.f a1_0 a1_1 a1_2 a1_3 a1_4).bind fun bt141 => ((impl_HavePut.f k t138 bt141.1 bt141.2.1 bt141.2.2.1 bt141.2.2.2.1 bt141.2.2.2.2).bind fun bt146 => ((laws_eqHaveS.f k bt146.1 t111).bind fun t150 => (if t150 = true then (if (bt146.2 != t114) = true then (some false) else ((laws_heldHaveS.f k bt135.2 1).bind fun t151 => (if t151 < 0 then (some false) else (if t151 = bt135.1 then (some true) else (some false))))) else (some false)))))) else (some false))))) else (some false))))) else (some false))))) = some r := by rw [if_pos rfl] at H; exact H
   clear H
   have H := H1
   clear H1
   by_cases c14 : (t126 != t114) = true
   ·
    rw [if_pos c14] at H
    have c14b0 : (t126 != t114) = true := c14
    (try (have c14b1 : decide (t126 = t114) = false := by simpa using c14))
    (try (have c14b2 : (t126 == t114) = false := by simpa using c14))
    (try (have c14b3 : ¬ (t126 = t114) := by simpa using c14))
    clear c14
    exact absurd ((Option.some.inj H).trans hrt) (by simp)
   ·
    rw [if_neg c14] at H
    have c14b0 : (t126 != t114) = false := by simpa using c14
    (try (have c14b1 : decide (t126 = t114) = true := by simpa using c14))
    (try (have c14b2 : (t126 == t114) = true := by simpa using c14))
    clear c14
    replace H := Option.bind_eq_some_iff.mp H
    obtain ⟨t128, A150, H⟩ := H
    replace H : ((laws_eqHaveS.f k t115 t128).bind fun t131 => (if t131 = true then ((laws_markHaveS.f k t115 1).bind fun bt132 => (if bt132.1 < 0 then (some false) else ((laws_eqHaveS.f k t123 t111).bind fun t134 => (if t134 = true then ((laws_markHaveS.f k t123 1).bind fun bt135 => ((laws_heldHaveS.f k bt135.2 1).bind fun t137 => (if t137 < 0 then (some false) else (if t137 = bt135.1 then ((laws_toHaveS.f k l0).bind fun t138 => ((laws_toHave.f a1_0 a1_1 a1_2 a1_3 a1_4).bind fun bt141 => ((impl_HavePut.f k t138 bt141.1 bt141.2.1 bt141.2.2.1 bt141.2.2.2.1 bt141.2.2.2.2).bind fun bt146 => ((laws_eqHaveS.f k bt146.1 t111).bind fun t150 => (if t150 = true then (if (bt146.2 != t114) = true then (some false) else ((laws_heldHaveS.f k bt135.2 1).bind fun t151 => (if t151 < 0 then (some false) else (if t151 = bt135.1 then (some true) else (some false))))) else (some false)))))) else (some false))))) else (some false))))) else (some false))) = some r := H
    have A15 := Aside0.mk A150
    clear A150
    replace H := Option.bind_eq_some_iff.mp H
    obtain ⟨t131, A160, H⟩ := H
    replace H : (if t131 = true then ((laws_markHaveS.f k t115 1).bind fun bt132 => (if bt132.1 < 0 then (some false) else ((laws_eqHaveS.f k t123 t111).bind fun t134 => (if t134 = true then ((laws_markHaveS.f k t123 1).bind fun bt135 => ((laws_heldHaveS.f k bt135.2 1).bind fun t137 => (if t137 < 0 then (some false) else (if t137 = bt135.1 then ((laws_toHaveS.f k l0).bind fun t138 => ((laws_toHave.f a1_0 a1_1 a1_2 a1_3 a1_4).bind fun bt141 => ((impl_HavePut.f k t138 bt141.1 bt141.2.1 bt141.2.2.1 bt141.2.2.2.1 bt141.2.2.2.2).bind fun bt146 => ((laws_eqHaveS.f k bt146.1 t111).bind fun t150 => (if t150 = true then (if (bt146.2 != t114) = true then (some false) else ((laws_heldHaveS.f k bt135.2 1).bind fun t151 => (if t151 < 0 then (some false) else (if t151 = bt135.1 then (some true) else (some false))))) else (some false)))))) else (some false))))) else (some false))))) else (some false)) = some r := H
    have A16 := Aside0.mk A160
    clear A160
    by_cases c17 : t131 = true
    ·
     subst c17
     have H1 : ((laws_markHaveS.f k t115 1).bind fun bt132 => (if bt132.1 < 0 then (some false) else ((laws_eqHaveS.f k t123 t111).bind fun t134 => (if t134 = true then ((laws_markHaveS.f k t123 1).bind fun bt135 => ((laws_heldHaveS.f k bt135.2 1).bind fun t137 => (if t137 < 0 then (some false) else (if t137 = bt135.1 then ((laws_toHaveS.f k l0).bind fun t138 => ((laws_toHave.f a1_0 a1_1 a1_2 a1_3 a1_4).bind fun bt141 => ((impl_HavePut.f k t138 bt141.1 bt141.2.1 bt141.2.2.1 bt141.2.2.2.1 bt141.2.2.2.2).bind fun bt146 => ((laws_eqHaveS.f k bt146.1 t111).bind fun t150 => (if t150 = true then (if (bt146.2 != t114) = true then (some false) else ((laws_heldHaveS.f k bt135.2 1).bind fun t151 => (if t151 < 0 then (some false) else (if t151 = bt135.1 then (some true) else (some false))))) else (some false)))))) else (some false))))) else (some false))))) = some r := by rw [if_pos rfl] at H; exact H
     clear H
     have H := H1
     clear H1
     replace H := Option.bind_eq_some_iff.mp H
     obtain ⟨⟨t132, t133⟩, A180, H⟩ := H
     replace H : (if t132 < 0 then (some false) else ((laws_eqHaveS.f k t123 t111).bind fun t134 => (if t134 = true then ((laws_markHaveS.f k t123 1).bind fun bt135 => ((laws_heldHaveS.f k bt135.2 1).bind fun t137 => (if t137 < 0 then (some false) else (if t137 = bt135.1 then ((laws_toHaveS.f k l0).bind fun t138 => ((laws_toHave.f a1_0 a1_1 a1_2 a1_3 a1_4).bind fun bt141 => ((impl_HavePut.f k t138 bt141.1 bt141.2.1 bt141.2.2.1 bt141.2.2.2.1 bt141.2.2.2.2).bind fun bt146 => ((laws_eqHaveS.f k bt146.1 t111).bind fun t150 => (if t150 = true then (if (bt146.2 != t114) = true then (some false) else ((laws_heldHaveS.f k bt135.2 1).bind fun t151 => (if t151 < 0 then (some false) else (if t151 = bt135.1 then (some true) else (some false))))) else (some false)))))) else (some false))))) else (some false)))) = some r := H
     have A18 := Aside0.mk A180
     clear A180
     by_cases c19 : t132 < 0
     ·
      rw [if_pos c19] at H
      have c19b0 : decide (t132 < 0) = true := decide_eq_true c19
      clear c19
      exact absurd ((Option.some.inj H).trans hrt) (by simp)
     ·
      rw [if_neg c19] at H
      have c19b0 : decide (t132 < 0) = false := decide_eq_false c19
      clear c19
      replace H := Option.bind_eq_some_iff.mp H
      obtain ⟨t134, A200, H⟩ := H
      replace H : (if t134 = true then ((laws_markHaveS.f k t123 1).bind fun bt135 => ((laws_heldHaveS.f k bt135.2 1).bind fun t137 => (if t137 < 0 then (some false) else (if t137 = bt135.1 then ((laws_toHaveS.f k l0).bind fun t138 => ((laws_toHave.f a1_0 a1_1 a1_2 a1_3 a1_4).bind fun bt141 => ((impl_HavePut.f k t138 bt141.1 bt141.2.1 bt141.2.2.1 bt141.2.2.2.1 bt141.2.2.2.2).bind fun bt146 => ((laws_eqHaveS.f k bt146.1 t111).bind fun t150 => (if t150 = true then (if (bt146.2 != t114) = true then (some false) else ((laws_heldHaveS.f k bt135.2 1).bind fun t151 => (if t151 < 0 then (some false) else (if t151 = bt135.1 then (some true) else (some false))))) else (some false)))))) else (some false))))) else (some false)) = some r := H
      have A20 := Aside0.mk A200
      clear A200
      by_cases c21 : t134 = true
      ·
       subst c21
       have H1 : ((laws_markHaveS.f k t123 1).bind fun bt135 => ((laws_heldHaveS.f k bt135.2 1).bind fun t137 => (if t137 < 0 then (some false) else (if t137 = bt135.1 then ((laws_toHaveS.f k l0).bind fun t138 => ((laws_toHave.f a1_0 a1_1 a1_2 a1_3 a1_4).bind fun bt141 => ((impl_HavePut.f k t138 bt141.1 bt141.2.1 bt141.2.2.1 bt141.2.2.2.1 bt141.2.2.2.2).bind fun bt146 => ((laws_eqHaveS.f k bt146.1 t111).bind fun t150 => (if t150 = true then (if (bt146.2 != t114) = true then (some false) else ((laws_heldHaveS.f k bt135.2 1).bind fun t151 => (if t151 < 0 then (some false) else (if t151 = bt135.1 then (some true) else (some false))))) else (some false)))))) else (some false))))) = some r := by rw [if_pos rfl] at H; exact H
       clear H
       have H := H1
       clear H1
       replace H := Option.bind_eq_some_iff.mp H
       obtain ⟨⟨t135, t136⟩, A220, H⟩ := H
       replace H : ((laws_heldHaveS.f k t136 1).bind fun t137 => (if t137 < 0 then (some false) else (if t137 = t135 then ((laws_toHaveS.f k l0).bind fun t138 => ((laws_toHave.f a1_0 a1_1 a1_2 a1_3 a1_4).bind fun bt141 => ((impl_HavePut.f k t138 bt141.1 bt141.2.1 bt141.2.2.1 bt141.2.2.2.1 bt141.2.2.2.2).bind fun bt146 => ((laws_eqHaveS.f k bt146.1 t111).bind fun t150 => (if t150 = true then (if (bt146.2 != t114) = true then (some false) else ((laws_heldHaveS.f k t136 1).bind fun t151 => (if t151 < 0 then (some false) else (if t151 = t135 then (some true) else (some false))))) else (some false)))))) else (some false)))) = some r := H
       have A22 := Aside0.mk A220
       clear A220
       replace H := Option.bind_eq_some_iff.mp H
       obtain ⟨t137, A230, H⟩ := H
       replace H : (if t137 < 0 then (some false) else (if t137 = t135 then ((laws_toHaveS.f k l0).bind fun t138 => ((laws_toHave.f a1_0 a1_1 a1_2 a1_3 a1_4).bind fun bt141 => ((impl_HavePut.f k t138 bt141.1 bt141.2.1 bt141.2.2.1 bt141.2.2.2.1 bt141.2.2.2.2).bind fun bt146 => ((laws_eqHaveS.f k bt146.1 t111).bind fun t150 => (if t150 = true then (if (bt146.2 != t114) = true then (some false) else ((laws_heldHaveS.f k t136 1).bind fun t151 => (if t151 < 0 then (some false) else (if t151 = t135 then (some true) else (some false))))) else (some false)))))) else (some false))) = some r := H
       have A23 := Aside0.mk A230
       clear A230
       by_cases c24 : t137 < 0
       ·
        rw [if_pos c24] at H
        have c24b0 : decide (t137 < 0) = true := decide_eq_true c24
        clear c24
        exact absurd ((Option.some.inj H).trans hrt) (by simp)
       ·
        rw [if_neg c24] at H
        have c24b0 : decide (t137 < 0) = false := decide_eq_false c24
        clear c24
        by_cases c25 : t137 = t135
        ·
         rw [if_pos c25] at H
         have c25b0 : (t137 == t135) = true := beq_iff_eq.mpr c25
         have c25b1 : (t137 != t135) = false := bne_eq_false_iff_eq.mpr c25
         clear c25
         replace H := Option.bind_eq_some_iff.mp H
         obtain ⟨t138, A260, H⟩ := H
         replace H : ((laws_toHave.f a1_0 a1_1 a1_2 a1_3 a1_4).bind fun bt141 => ((impl_HavePut.f k t138 bt141.1 bt141.2.1 bt141.2.2.1 bt141.2.2.2.1 bt141.2.2.2.2).bind fun bt146 => ((laws_eqHaveS.f k bt146.1 t111).bind fun t150 => (if t150 = true then (if (bt146.2 != t114) = true then (some false) else ((laws_heldHaveS.f k t136 1).bind fun t151 => (if t151 < 0 then (some false) else (if t151 = t135 then (some true) else (some false))))) else (some false))))) = some r := H
         have A26 := Aside0.mk A260
         clear A260
         replace H := Option.bind_eq_some_iff.mp H
         obtain ⟨⟨t141, t142, t143, t144, t145⟩, A270, H⟩ := H
         replace H : ((impl_HavePut.f k t138 t141 t142 t143 t144 t145).bind fun bt146 => ((laws_eqHaveS.f k bt146.1 t111).bind fun t150 => (if t150 = true then (if (bt146.2 != t114) = true then (some false) else ((laws_heldHaveS.f k t136 1).bind fun t151 => (if t151 < 0 then (some false) else (if t151 = t135 then (some true) else (some false))))) else (some false)))) = some r := H
         have A27 := Aside0.mk A270
         clear A270
         replace H := Option.bind_eq_some_iff.mp H
         obtain ⟨⟨t146, t149⟩, A280, H⟩ := H
         replace H : ((laws_eqHaveS.f k t146 t111).bind fun t150 => (if t150 = true then (if (t149 != t114) = true then (some false) else ((laws_heldHaveS.f k t136 1).bind fun t151 => (if t151 < 0 then (some false) else (if t151 = t135 then (some true) else (some false))))) else (some false))) = some r := H
         have A28 := Aside0.mk A280
         clear A280
         replace H := Option.bind_eq_some_iff.mp H
         obtain ⟨t150, A290, H⟩ := H
         replace H : (if t150 = true then (if (t149 != t114) = true then (some false) else ((laws_heldHaveS.f k t136 1).bind fun t151 => (if t151 < 0 then (some false) else (if t151 = t135 then (some true) else (some false))))) else (some false)) = some r := H
         have A29 := Aside0.mk A290
         clear A290
         by_cases c30 : t150 = true
         ·
          subst c30
          have H1 : (if (t149 != t114) = true then (some false) else ((laws_heldHaveS.f k t136 1).bind fun t151 => (if t151 < 0 then (some false) else (if t151 = t135 then (some true) else (some false))))) = some r := by rw [if_pos rfl] at H; exact H
          clear H
          have H := H1
          clear H1
          by_cases c31 : (t149 != t114) = true
          ·
           rw [if_pos c31] at H
           have c31b0 : (t149 != t114) = true := c31
           (try (have c31b1 : decide (t149 = t114) = false := by simpa using c31))
           (try (have c31b2 : (t149 == t114) = false := by simpa using c31))
           (try (have c31b3 : ¬ (t149 = t114) := by simpa using c31))
           clear c31
           exact absurd ((Option.some.inj H).trans hrt) (by simp)
          ·
           rw [if_neg c31] at H
           have c31b0 : (t149 != t114) = false := by simpa using c31
           (try (have c31b1 : decide (t149 = t114) = true := by simpa using c31))
           (try (have c31b2 : (t149 == t114) = true := by simpa using c31))
           clear c31
           replace H := Option.bind_eq_some_iff.mp H
           obtain ⟨t151, A320, H⟩ := H
           replace H : (if t151 < 0 then (some false) else (if t151 = t135 then (some true) else (some false))) = some r := H
           have A32 := Aside0.mk A320
           clear A320
           by_cases c33 : t151 < 0
           ·
            rw [if_pos c33] at H
            have c33b0 : decide (t151 < 0) = true := decide_eq_true c33
            clear c33
            exact absurd ((Option.some.inj H).trans hrt) (by simp)
           ·
            rw [if_neg c33] at H
            have c33b0 : decide (t151 < 0) = false := decide_eq_false c33
            clear c33
            by_cases c34 : t151 = t135
            ·
             rw [if_pos c34] at H
             have c34b0 : (t151 == t135) = true := beq_iff_eq.mpr c34
             have c34b1 : (t151 != t135) = false := bne_eq_false_iff_eq.mpr c34
             clear c34
             obtain rfl := Option.some.inj H
             go_enter Try.func6, Try.ntmps6
             try go_wp2_with (first | ((with_reducible refine gate_dst (N := 3) rfl ?_); refine box_event ?hg (N := 3) ?hd (cs := #[.int .i64 a1_0, .int .i64 a1_1, .int .i64 a1_2, .int .i64 a1_3, .int .i64 a1_4]) (t := 38) ?hr ?_; (case hd => rfl); (case hg => rfl); (case hr => first | (go_simp; done) | (go_simp; rfl)); intro gb101 hg w35 hbox hb; have n0_ := Aside0.mk (below_step (by repeat (first | (with_reducible first | exact HB.out | apply below_alloc | apply pw_below_drewN | apply below_drew1) | exact HB.out)) hb); have n1_ := Aside0.mk (hbox); have n2_ := Aside0.mk ((by rw [hg]; exact (below_size (by repeat (first | (with_reducible first | exact HB.out | apply below_alloc | apply pw_below_drewN | apply below_drew1) | exact HB.out))) : w.heap.size ≤ gb101)); have n3_ := Aside0.mk ((by rw [hg]; exact (below_size (by repeat (first | (with_reducible first | exact HB.out | apply below_alloc | apply pw_below_drewN | apply below_drew1) | exact HB.out))) : w.heap.size ≤ gb101)); clear HB; have HB := n0_; have BK101 := n1_; have GW101 := n2_; have GE101 := n3_; clear n0_ n1_ n2_ n3_; clear hb hbox hg) | ((with_reducible refine gate_callee (f := 9) rfl ?_); refine goesL_ (some 18) rfl rfl Try.func9 (by kernel_rfl) rfl #[.slice A0 l0.length c0, .int .i64 1048576] rfl (by (try simp only [List.map_toArray, List.map_cons, List.map_nil]); first | done | rfl | (simp only [List.length_drop, List.length_take]; rfl)) ?_; (with_reducible refine (laws_szHaveS.calls _ _ l0 1048576 t102 _ ?side1 ?side2 A3.out).mono ?_); (case side1 => repeat (first | exact (Kd.C_below HR0.out HB.out) | (with_reducible refine Kd.C_alloc ?_ _) | (with_reducible refine Kd.C_drewN ?_ _) | (with_reducible refine Kd.C_drew ?_))); (case side2 => exact HC0.out); rintro e w' ⟨rfl, ⟨nd, rfl⟩⟩; refine ⟨_, rfl, ?_⟩))
             (try (rw [drewN_self w35]; generalize hq_ : World.drewN w35 _ = w35; have n0_ : Aside0 (w35.heap[gb101]? = some (.cells #[.int .i64 a1_0, .int .i64 a1_1, .int .i64 a1_2, .int .i64 a1_3, .int .i64 a1_4] 38 (0, 0))) := ⟨by rw [← hq_]; exact (by (with_reducible repeat (first | refine blk_drewN ?_ _ | refine blk_drew ?_ | refine blk_alloc ?_ _)); exact BK101.out)⟩; have n1_ : Aside0 (Below w.heap.size w w35) := ⟨by rw [← hq_]; exact (by repeat (first | (with_reducible first | exact HB.out | apply below_alloc | apply pw_below_drewN | apply below_drew1 | refine below_set ?_ GE101.out) | exact HB.out))⟩; clear BK101 HB hq_; have BK101 := n0_; have HB := n1_; clear n0_ n1_))
             have n0_ := Aside0.mk (blk_drew BK101.out)
             have n1_ := Aside0.mk (below_drew1 HB.out)
             clear BK101
             clear HB
             have BK101 := n0_
             have HB := n1_
             clear n0_ n1_
             refine start_ (n := 10) (S := fun w' => w'.cell? ⟨gb101, 0, none⟩ = some (.int .i64 a1_0) ∧ w'.cell? ⟨gb101, 1, none⟩ = some (.int .i64 a1_1) ∧ w'.cell? ⟨gb101, 2, none⟩ = some (.int .i64 a1_2) ∧ w'.cell? ⟨gb101, 3, none⟩ = some (.int .i64 a1_3) ∧ w'.cell? ⟨gb101, 4, none⟩ = some (.int .i64 a1_4)) (ds := []) #[false, false, false, false, false, false, false, false, false, false] (by kernel_rfl) rfl rfl ⟨(blk_cell BK101.out 0).trans rfl, (blk_cell BK101.out 1).trans rfl, (blk_cell BK101.out 2).trans rfl, (blk_cell BK101.out 3).trans rfl, (blk_cell BK101.out 4).trans rfl⟩ (fun hHeld => ?_); refine with_tabW laws_FnExactHavePut.tab5 laws_FnExactHavePut.bits5 (fun HT_ HW_ => ?_)
             generalize w35.drew = w36 at BK101 HB hHeld ⊢
             refine pure_ (i := 0) (N := some 22) (v := ?_) (a' := ?_) #[true, false, false, false, false, false, false, false, false, false] rfl rfl (any_of HT_.out (by kernel_rfl)) (fun _ _ _ h => h) (Or.inl ⟨by rfl, ?_⟩) ?_ ?_
             rotate_left
             ·
              intro w'
              go_simp
              with_reducible rfl
             rotate_left
             ·
              simp only [Act.put, List.setIfInBounds_toArray, List.set_cons_zero, List.set_cons_succ, i64_w, i32_w]
              rfl
             refine take_ (i := 2) (N := some 24) (v := ?_) (a' := ?_) #[true, false, true, false, false, false, false, false, false, false] rfl rfl (take_ofW HT_.out HW_.out (by kernel_rfl)) (fun _ _ _ h => h) (Or.inl ⟨by rfl, ?_⟩) hHeld ?_ ?_
             rotate_left
             ·
              rintro w' ⟨s0, s1, s2, s3, s4⟩
              go_simp
              with_reducible rfl
             rotate_left
             ·
              simp only [Act.put, List.setIfInBounds_toArray, List.set_cons_zero, List.set_cons_succ, i64_w, i32_w]
              rfl
             refine one_ (i := 1) (N := some 23) #[true, true, true, false, false, false, false, false, false, false] rfl rfl (one_of HT_.out (by kernel_rfl)) (by decide) (fun K hK => ?_)
             refine goes_ Try.func11 (by kernel_rfl) rfl #[.slice A0 l0.length c0] (by rfl) rfl rfl (by (try simp only [List.map_toArray, List.map_cons, List.map_nil]); first | done | rfl | (simp only [List.length_drop, List.length_take]; rfl)) ?_
             with_reducible refine (laws_toHaveS.calls k _ _ l0 t103 _ ?side1 ?side2 A6.out).mono ?_
             (case side1 => repeat (first | exact (Kd.C_below HR0.out HB.out) | (with_reducible refine Kd.C_alloc ?_ _) | (with_reducible refine Kd.C_drewN ?_ _) | (with_reducible refine Kd.C_drew ?_)))
             (case side2 => exact HC0.out)
             rintro e w37 ⟨v104, rfl, ho0, hb⟩
             refine ⟨_, rfl, ?_⟩
             have n0_ := Aside0.mk (Kd.R_lower ho0 (below_size (by repeat (first | (with_reducible first | exact HB.out | apply below_alloc | apply pw_below_drewN | apply below_drew1 | refine below_set ?_ GE101.out) | exact HB.out))))
             have n1_ := Aside0.mk (blk_below (g := gb101) (o := .cells #[.int .i64 a1_0, .int .i64 a1_1, .int .i64 a1_2, .int .i64 a1_3, .int .i64 a1_4] 38 (0, 0)) (by (with_reducible repeat (first | refine blk_drewN ?_ _ | refine blk_drew ?_ | refine blk_alloc ?_ _)); exact BK101.out) hb)
             have n2_ := Aside0.mk (below_step (by repeat (first | (with_reducible first | exact HB.out | apply below_alloc | apply pw_below_drewN | apply below_drew1 | refine below_set ?_ GE101.out) | exact HB.out)) hb)
             clear BK101
             clear HB
             have HO105 := n0_
             have BK101 := n1_
             have HB := n2_
             clear n0_ n1_ n2_
             (try clear hb)
             (try clear hb2)
             (try clear hk)
             (try clear hi)
             (try clear ho0)
             refine hK.out _ _ ⟨(blk_cell BK101.out 0).trans rfl, (blk_cell BK101.out 1).trans rfl, (blk_cell BK101.out 2).trans rfl, (blk_cell BK101.out 3).trans rfl, (blk_cell BK101.out 4).trans rfl⟩ (fun hHeld => ?_)
             clear hK K
             refine norm_ (a' := ?_) ?_ ?_
             rotate_left
             ·
              show Act.put _ (some 23) _ = _
              simp only [Act.put, List.setIfInBounds_toArray, List.set_cons_zero, List.set_cons_succ, i64_w, i32_w]
              rfl
             refine one_ (i := 3) (N := some 25) #[true, true, true, true, false, false, false, false, false, false] rfl rfl (one_of HT_.out (by kernel_rfl)) (by decide) (fun K hK => ?_)
             refine goes_ Try.func22 (by kernel_rfl) rfl #[.agg #[.int .i64 a1_0, .int .i64 a1_1, .int .i64 a1_2, .int .i64 a1_3, .int .i64 a1_4]] (by rfl) rfl rfl (by (try simp only [List.map_toArray, List.map_cons, List.map_nil]); first | done | rfl | (simp only [List.length_drop, List.length_take]; rfl)) ?_
             with_reducible refine (laws_toHave.calls a1_0 a1_1 a1_2 a1_3 a1_4 t106 t107 t108 t109 t110 _ A7.out).mono ?_
             rintro e w38 ⟨rfl, hb⟩
             refine ⟨_, rfl, ?_⟩
             have n0_ := Aside0.mk (Kd.R_below (by (with_reducible repeat (first | apply Kd.R_alloc | apply Kd.R_drewN | apply Kd.R_drew)); exact HO105.out) hb)
             have n1_ := Aside0.mk (blk_below (g := gb101) (o := .cells #[.int .i64 a1_0, .int .i64 a1_1, .int .i64 a1_2, .int .i64 a1_3, .int .i64 a1_4] 38 (0, 0)) (by (with_reducible repeat (first | refine blk_drewN ?_ _ | refine blk_drew ?_ | refine blk_alloc ?_ _)); exact BK101.out) hb)
             have n2_ := Aside0.mk (below_step (by repeat (first | (with_reducible first | exact HB.out | apply below_alloc | apply pw_below_drewN | apply below_drew1 | refine below_set ?_ GE101.out) | exact HB.out)) hb)
             clear HO105
             clear BK101
             clear HB
             have HO105 := n0_
             have BK101 := n1_
             have HB := n2_
             clear n0_ n1_ n2_
             (try clear hb)
             (try clear hb2)
             (try clear hk)
             (try clear hi)
             obtain ⟨Ao39, co39, eo39⟩ := Kd.R_slice HO105.out
             (first | subst eo39 | (injection eo39 with f1_ f2_ f3_; have f4_ := f1_.symm; have f5_ := f3_.symm; clear f1_ f2_ f3_; subst f4_; subst f5_))
             refine hK.out _ _ ⟨(blk_cell BK101.out 0).trans rfl, (blk_cell BK101.out 1).trans rfl, (blk_cell BK101.out 2).trans rfl, (blk_cell BK101.out 3).trans rfl, (blk_cell BK101.out 4).trans rfl⟩ (fun hHeld => ?_)
             clear hK K
             refine norm_ (a' := ?_) ?_ ?_
             rotate_left
             ·
              show Act.put _ (some 25) _ = _
              simp only [Act.put, List.setIfInBounds_toArray, List.set_cons_zero, List.set_cons_succ, i64_w, i32_w]
              rfl
             refine one_ (i := 4) (N := some 26) #[true, true, true, true, true, false, false, false, false, false] rfl rfl (one_of HT_.out (by kernel_rfl)) (by decide) (fun K hK => ?_)
             refine goes_ Try.func21 (by kernel_rfl) rfl #[.slice Ao39 t103.length co39, .agg #[.int .i64 t106, .int .i64 t107, .int .i64 t108, .int .i64 t109, .int .i64 t110]] (by rfl) rfl rfl (by (try simp only [List.map_toArray, List.map_cons, List.map_nil]); first | done | rfl | (simp only [List.length_drop, List.length_take]; rfl)) ?_
             with_reducible refine (spec_HavePut.calls k _ _ t103 t106 t107 t108 t109 t110 t111 t114 _ ?side1 ?side2 A8.out).mono ?_
             (case side1 => repeat (first | exact (Kd.R_reads' HO105.out).2.2 | (with_reducible refine Kd.C_alloc ?_ _) | (with_reducible refine Kd.C_drewN ?_ _) | (with_reducible refine Kd.C_drew ?_)))
             (case side2 => exact (Kd.R_reads' HO105.out).2.1)
             rintro e w40 ⟨v112, rfl, ho0, hb⟩
             refine ⟨_, rfl, ?_⟩
             have n0_ := Aside0.mk (Kd.R_elder' (by (with_reducible repeat (first | apply Kd.R_alloc | apply Kd.R_drewN | apply Kd.R_drew)); exact HO105.out) (Kd.R_base ho0) hb)
             have n1_ := Aside0.mk (Kd.R_lower (Kd.R_new' ho0 (Kd.R_lt (by (with_reducible repeat (first | apply Kd.R_alloc | apply Kd.R_drewN | apply Kd.R_drew)); exact HO105.out))) (below_size (by repeat (first | (with_reducible first | exact HB.out | apply below_alloc | apply pw_below_drewN | apply below_drew1 | refine below_set ?_ GE101.out) | exact HB.out))))
             have n2_ := Aside0.mk (blk_below (g := gb101) (o := .cells #[.int .i64 a1_0, .int .i64 a1_1, .int .i64 a1_2, .int .i64 a1_3, .int .i64 a1_4] 38 (0, 0)) (by (with_reducible repeat (first | refine blk_drewN ?_ _ | refine blk_drew ?_ | refine blk_alloc ?_ _)); exact BK101.out) hb)
             have n3_ := Aside0.mk (below_step (by repeat (first | (with_reducible first | exact HB.out | apply below_alloc | apply pw_below_drewN | apply below_drew1 | refine below_set ?_ GE101.out) | exact HB.out)) hb)
             clear HO105
             clear BK101
             clear HB
             have HO105 := n0_
             have HO113 := n1_
             have BK101 := n2_
             have HB := n3_
             clear n0_ n1_ n2_ n3_
             (try clear hb)
             (try clear hb2)
             (try clear hk)
             (try clear hi)
             (try clear ho0)
             refine hK.out _ _ ⟨(blk_cell BK101.out 0).trans rfl, (blk_cell BK101.out 1).trans rfl, (blk_cell BK101.out 2).trans rfl, (blk_cell BK101.out 3).trans rfl, (blk_cell BK101.out 4).trans rfl⟩ (fun hHeld => ?_)
             clear hK K
             refine norm_ (a' := ?_) ?_ ?_
             rotate_left
             ·
              show Act.put _ (some 26) _ = _
              simp only [Act.put, List.setIfInBounds_toArray, List.set_cons_zero, List.set_cons_succ, i64_w, i32_w]
              rfl
             refine pure_ (i := 5) (N := some 21) (v := ?_) (a' := ?_) #[true, true, true, true, true, true, false, false, false, false] rfl rfl (any_of HT_.out (by kernel_rfl)) (fun _ _ _ h => h) (Or.inl ⟨by rfl, ?_⟩) ?_ ?_
             rotate_left
             ·
              intro w'
              go_simp
              with_reducible rfl
             rotate_left
             ·
              simp only [Act.put, List.setIfInBounds_toArray, List.set_cons_zero, List.set_cons_succ, i64_w, i32_w]
              rfl
             refine pure_ (i := 6) (N := some 27) (v := ?_) (a' := ?_) #[true, true, true, true, true, true, true, false, false, false] rfl rfl (any_of HT_.out (by kernel_rfl)) (fun _ _ _ h => h) (Or.inl ⟨by rfl, ?_⟩) ?_ ?_
             rotate_left
             ·
              intro w'
              go_simp
              with_reducible rfl
             rotate_left
             ·
              simp only [Act.put, List.setIfInBounds_toArray, List.set_cons_zero, List.set_cons_succ, i64_w, i32_w]
              rfl
             refine pure_ (i := 7) (N := some 28) (v := ?_) (a' := ?_) #[true, true, true, true, true, true, true, true, false, false] rfl rfl (any_of HT_.out (by kernel_rfl)) (fun _ _ _ h => h) (Or.inl ⟨by rfl, ?_⟩) ?_ ?_
             rotate_left
             ·
              intro w'
              go_simp
              with_reducible rfl
             rotate_left
             ·
              simp only [Act.put, List.setIfInBounds_toArray, List.set_cons_zero, List.set_cons_succ, i64_w, i32_w]
              rfl
             refine pure_ (i := 8) (N := some 6) (v := ?_) (a' := ?_) #[true, true, true, true, true, true, true, true, true, false] rfl rfl (any_of HT_.out (by kernel_rfl)) (fun _ _ _ h => h) (Or.inl ⟨by rfl, ?_⟩) ?_ ?_
             rotate_left
             ·
              intro w'
              go_simp
              with_reducible rfl
             rotate_left
             ·
              simp only [Act.put, List.setIfInBounds_toArray, List.set_cons_zero, List.set_cons_succ, i64_w, i32_w]
              rfl
             refine pure_ (i := 9) (N := some 7) (v := ?_) (a' := ?_) #[true, true, true, true, true, true, true, true, true, true] rfl rfl (any_of HT_.out (by kernel_rfl)) (fun _ _ _ h => h) (Or.inl ⟨by rfl, ?_⟩) ?_ ?_
             rotate_left
             ·
              intro w'
              go_simp
              with_reducible rfl
             rotate_left
             ·
              simp only [Act.put, List.setIfInBounds_toArray, List.set_cons_zero, List.set_cons_succ, i64_w, i32_w]
              rfl
             refine done_ (done_of HT_.out (by kernel_rfl)) ?_
             try go_wp2_with (first | ((with_reducible refine gate_callee (f := 11) rfl ?_); refine goesL_ (some 30) rfl rfl Try.func11 (by kernel_rfl) rfl #[.slice A0 l0.length c0] rfl (by (try simp only [List.map_toArray, List.map_cons, List.map_nil]); first | done | rfl | (simp only [List.length_drop, List.length_take]; rfl)) ?_; (with_reducible refine (laws_toHaveS.calls k _ _ l0 t115 _ ?side1 ?side2 A9.out).mono ?_); (case side1 => repeat (first | exact (Kd.C_below HR0.out HB.out) | (with_reducible refine Kd.C_alloc ?_ _) | (with_reducible refine Kd.C_drewN ?_ _) | (with_reducible refine Kd.C_drew ?_))); (case side2 => exact HC0.out); rintro e w41 ⟨v116, rfl, ho0, hb⟩; refine ⟨_, rfl, ?_⟩; have n0_ := Aside0.mk (Kd.R_elder' (by (with_reducible repeat (first | apply Kd.R_alloc | apply Kd.R_drewN | apply Kd.R_drew)); exact HO105.out) (Kd.R_base ho0) hb); have n1_ := Aside0.mk (Kd.R_elder' (by (with_reducible repeat (first | apply Kd.R_alloc | apply Kd.R_drewN | apply Kd.R_drew)); exact HO113.out) (Kd.R_base ho0) hb); have n2_ := Aside0.mk (Kd.R_lower (Kd.R_new' (Kd.R_new' ho0 (Kd.R_lt (by (with_reducible repeat (first | apply Kd.R_alloc | apply Kd.R_drewN | apply Kd.R_drew)); exact HO105.out))) (Kd.R_lt (by (with_reducible repeat (first | apply Kd.R_alloc | apply Kd.R_drewN | apply Kd.R_drew)); exact HO113.out))) (below_size (by repeat (first | (with_reducible first | exact HB.out | apply below_alloc | apply pw_below_drewN | apply below_drew1 | refine below_set ?_ GE101.out) | exact HB.out)))); have n3_ := Aside0.mk (blk_below (g := gb101) (o := .cells #[.int .i64 a1_0, .int .i64 a1_1, .int .i64 a1_2, .int .i64 a1_3, .int .i64 a1_4] 38 (0, 0)) (by (with_reducible repeat (first | refine blk_drewN ?_ _ | refine blk_drew ?_ | refine blk_alloc ?_ _)); exact BK101.out) hb); have n4_ := Aside0.mk (below_step (by repeat (first | (with_reducible first | exact HB.out | apply below_alloc | apply pw_below_drewN | apply below_drew1 | refine below_set ?_ GE101.out) | exact HB.out)) hb); clear HO105; clear HO113; clear BK101; clear HB; have HO105 := n0_; have HO113 := n1_; have HO117 := n2_; have BK101 := n3_; have HB := n4_; clear n0_ n1_ n2_ n3_ n4_; (try clear hb); (try clear hb2); (try clear hk); (try clear hi); (try clear ho0); have hcz42_0 : w41.cell? ⟨gb101, 0, none⟩ = some (.int .i64 a1_0) := (blk_cell BK101.out 0).trans rfl; have hcz42_1 : w41.cell? ⟨gb101, 1, none⟩ = some (.int .i64 a1_1) := (blk_cell BK101.out 1).trans rfl; have hcz42_2 : w41.cell? ⟨gb101, 2, none⟩ = some (.int .i64 a1_2) := (blk_cell BK101.out 2).trans rfl; have hcz42_3 : w41.cell? ⟨gb101, 3, none⟩ = some (.int .i64 a1_3) := (blk_cell BK101.out 3).trans rfl; have hcz42_4 : w41.cell? ⟨gb101, 4, none⟩ = some (.int .i64 a1_4) := (blk_cell BK101.out 4).trans rfl; have hfz42_0 := blk_frozen BK101.out 0; have hfz42_1 := blk_frozen BK101.out 1; have hfz42_2 := blk_frozen BK101.out 2; have hfz42_3 := blk_frozen BK101.out 3; have hfz42_4 := blk_frozen BK101.out 4) | ((with_reducible refine gate_callee (f := 22) rfl ?_); refine goesL_ (some 34) rfl rfl Try.func22 (by kernel_rfl) rfl #[.agg #[.int .i64 a1_0, .int .i64 a1_1, .int .i64 a1_2, .int .i64 a1_3, .int .i64 a1_4]] rfl (by (try simp only [List.map_toArray, List.map_cons, List.map_nil]); first | done | rfl | (simp only [List.length_drop, List.length_take]; rfl)) ?_; (with_reducible refine (laws_toHave.calls a1_0 a1_1 a1_2 a1_3 a1_4 t118 t119 t120 t121 t122 _ A10.out).mono ?_); rintro e w43 ⟨rfl, hb⟩; refine ⟨_, rfl, ?_⟩; have n0_ := Aside0.mk (Kd.R_below (by (with_reducible repeat (first | apply Kd.R_alloc | apply Kd.R_drewN | apply Kd.R_drew)); exact HO105.out) hb); have n1_ := Aside0.mk (Kd.R_below (by (with_reducible repeat (first | apply Kd.R_alloc | apply Kd.R_drewN | apply Kd.R_drew)); exact HO113.out) hb); have n2_ := Aside0.mk (Kd.R_below (by (with_reducible repeat (first | apply Kd.R_alloc | apply Kd.R_drewN | apply Kd.R_drew)); exact HO117.out) hb); have n3_ := Aside0.mk (blk_below (g := gb101) (o := .cells #[.int .i64 a1_0, .int .i64 a1_1, .int .i64 a1_2, .int .i64 a1_3, .int .i64 a1_4] 38 (0, 0)) (by (with_reducible repeat (first | refine blk_drewN ?_ _ | refine blk_drew ?_ | refine blk_alloc ?_ _)); exact BK101.out) hb); have n4_ := Aside0.mk (below_step (by repeat (first | (with_reducible first | exact HB.out | apply below_alloc | apply pw_below_drewN | apply below_drew1 | refine below_set ?_ GE101.out) | exact HB.out)) hb); clear HO105; clear HO113; clear HO117; clear BK101; clear HB; have HO105 := n0_; have HO113 := n1_; have HO117 := n2_; have BK101 := n3_; have HB := n4_; clear n0_ n1_ n2_ n3_ n4_; (try clear hb); (try clear hb2); (try clear hk); (try clear hi); obtain ⟨Ao44, co44, eo44⟩ := Kd.R_slice HO117.out; subst eo44) | ((with_reducible refine gate_callee (f := 23) rfl ?_); refine goesL_ (some 35) rfl rfl Try.func23 (by kernel_rfl) rfl #[.slice Ao44 t115.length co44, .agg #[.int .i64 t118, .int .i64 t119, .int .i64 t120, .int .i64 t121, .int .i64 t122]] rfl (by (try simp only [List.map_toArray, List.map_cons, List.map_nil]); first | done | rfl | (simp only [List.length_drop, List.length_take]; rfl)) ?_; (with_reducible refine (impl_HavePut.calls k _ _ t115 t118 t119 t120 t121 t122 t123 t126 _ ?side1 ?side2 A11.out).mono ?_); (case side1 => repeat (first | exact (Kd.R_reads' HO117.out).2.2 | (with_reducible refine Kd.C_alloc ?_ _) | (with_reducible refine Kd.C_drewN ?_ _) | (with_reducible refine Kd.C_drew ?_))); (case side2 => exact (Kd.R_reads' HO117.out).2.1); rintro e w45 ⟨v124, rfl, ho0, hb⟩; refine ⟨_, rfl, ?_⟩; have n0_ := Aside0.mk (Kd.R_elder' (by (with_reducible repeat (first | apply Kd.R_alloc | apply Kd.R_drewN | apply Kd.R_drew)); exact HO105.out) (Kd.R_base ho0) hb); have n1_ := Aside0.mk (Kd.R_elder' (by (with_reducible repeat (first | apply Kd.R_alloc | apply Kd.R_drewN | apply Kd.R_drew)); exact HO113.out) (Kd.R_base ho0) hb); have n2_ := Aside0.mk (Kd.R_elder' (by (with_reducible repeat (first | apply Kd.R_alloc | apply Kd.R_drewN | apply Kd.R_drew)); exact HO117.out) (Kd.R_base ho0) hb); have n3_ := Aside0.mk (Kd.R_lower (Kd.R_new' (Kd.R_new' (Kd.R_new' ho0 (Kd.R_lt (by (with_reducible repeat (first | apply Kd.R_alloc | apply Kd.R_drewN | apply Kd.R_drew)); exact HO105.out))) (Kd.R_lt (by (with_reducible repeat (first | apply Kd.R_alloc | apply Kd.R_drewN | apply Kd.R_drew)); exact HO113.out))) (Kd.R_lt (by (with_reducible repeat (first | apply Kd.R_alloc | apply Kd.R_drewN | apply Kd.R_drew)); exact HO117.out))) (below_size (by repeat (first | (with_reducible first | exact HB.out | apply below_alloc | apply pw_below_drewN | apply below_drew1 | refine below_set ?_ GE101.out) | exact HB.out)))); have n4_ := Aside0.mk (blk_below (g := gb101) (o := .cells #[.int .i64 a1_0, .int .i64 a1_1, .int .i64 a1_2, .int .i64 a1_3, .int .i64 a1_4] 38 (0, 0)) (by (with_reducible repeat (first | refine blk_drewN ?_ _ | refine blk_drew ?_ | refine blk_alloc ?_ _)); exact BK101.out) hb); have n5_ := Aside0.mk (below_step (by repeat (first | (with_reducible first | exact HB.out | apply below_alloc | apply pw_below_drewN | apply below_drew1 | refine below_set ?_ GE101.out) | exact HB.out)) hb); clear HO105; clear HO113; clear HO117; clear BK101; clear HB; have HO105 := n0_; have HO113 := n1_; have HO117 := n2_; have HO125 := n3_; have BK101 := n4_; have HB := n5_; clear n0_ n1_ n2_ n3_ n4_ n5_; (try clear hb); (try clear hb2); (try clear hk); (try clear hi); (try clear ho0); obtain ⟨Ao46, co46, eo46⟩ := Kd.R_slice HO125.out; subst eo46; obtain ⟨Ao47, co47, eo47⟩ := Kd.R_slice HO113.out; subst eo47) | ((with_reducible refine gate_callee (f := 13) rfl ?_); refine goesL_ (some 40) rfl rfl Try.func13 (by kernel_rfl) rfl #[.slice Ao46 t123.length co46, .slice Ao47 t111.length co47] rfl (by (try simp only [List.map_toArray, List.map_cons, List.map_nil]); first | done | rfl | (simp only [List.length_drop, List.length_take]; rfl)) ?_; (with_reducible refine (laws_eqHaveS.calls k _ _ t123 _ _ t111 true _ ?side1 ?side2 ?side3 ?side4 A12.out).mono ?_); (case side1 => repeat (first | exact (Kd.R_reads' HO125.out).2.2 | (with_reducible refine Kd.C_alloc ?_ _) | (with_reducible refine Kd.C_drewN ?_ _) | (with_reducible refine Kd.C_drew ?_))); (case side2 => exact (Kd.R_reads' HO125.out).2.1); (case side3 => repeat (first | exact (Kd.R_reads' HO113.out).2.2 | (with_reducible refine Kd.C_alloc ?_ _) | (with_reducible refine Kd.C_drewN ?_ _) | (with_reducible refine Kd.C_drew ?_))); (case side4 => exact (Kd.R_reads' HO113.out).2.1); rintro e w48 ⟨rfl, hb⟩; refine ⟨_, rfl, ?_⟩; have n0_ := Aside0.mk (Kd.R_below (by (with_reducible repeat (first | apply Kd.R_alloc | apply Kd.R_drewN | apply Kd.R_drew)); exact HO105.out) hb); have n1_ := Aside0.mk (Kd.R_below (by (with_reducible repeat (first | apply Kd.R_alloc | apply Kd.R_drewN | apply Kd.R_drew)); exact HO113.out) hb); have n2_ := Aside0.mk (Kd.R_below (by (with_reducible repeat (first | apply Kd.R_alloc | apply Kd.R_drewN | apply Kd.R_drew)); exact HO117.out) hb); have n3_ := Aside0.mk (Kd.R_below (by (with_reducible repeat (first | apply Kd.R_alloc | apply Kd.R_drewN | apply Kd.R_drew)); exact HO125.out) hb); have n4_ := Aside0.mk (blk_below (g := gb101) (o := .cells #[.int .i64 a1_0, .int .i64 a1_1, .int .i64 a1_2, .int .i64 a1_3, .int .i64 a1_4] 38 (0, 0)) (by (with_reducible repeat (first | refine blk_drewN ?_ _ | refine blk_drew ?_ | refine blk_alloc ?_ _)); exact BK101.out) hb); have n5_ := Aside0.mk (below_step (by repeat (first | (with_reducible first | exact HB.out | apply below_alloc | apply pw_below_drewN | apply below_drew1 | refine below_set ?_ GE101.out) | exact HB.out)) hb); clear HO105; clear HO113; clear HO117; clear HO125; clear BK101; clear HB; have HO105 := n0_; have HO113 := n1_; have HO117 := n2_; have HO125 := n3_; have BK101 := n4_; have HB := n5_; clear n0_ n1_ n2_ n3_ n4_ n5_; (try clear hb); (try clear hb2); (try clear hk); (try clear hi)) | ((with_reducible refine gate_callee (f := 11) rfl ?_); refine goesL_ (some 49) rfl rfl Try.func11 (by kernel_rfl) rfl #[.slice A0 l0.length c0] rfl (by (try simp only [List.map_toArray, List.map_cons, List.map_nil]); first | done | rfl | (simp only [List.length_drop, List.length_take]; rfl)) ?_; (with_reducible refine (laws_toHaveS.calls k _ _ l0 t128 _ ?side1 ?side2 A15.out).mono ?_); (case side1 => repeat (first | exact (Kd.C_below HR0.out HB.out) | (with_reducible refine Kd.C_alloc ?_ _) | (with_reducible refine Kd.C_drewN ?_ _) | (with_reducible refine Kd.C_drew ?_))); (case side2 => exact HC0.out); rintro e w49 ⟨v129, rfl, ho0, hb⟩; refine ⟨_, rfl, ?_⟩; have n0_ := Aside0.mk (Kd.R_elder' (by (with_reducible repeat (first | apply Kd.R_alloc | apply Kd.R_drewN | apply Kd.R_drew)); exact HO105.out) (Kd.R_base ho0) hb); have n1_ := Aside0.mk (Kd.R_elder' (by (with_reducible repeat (first | apply Kd.R_alloc | apply Kd.R_drewN | apply Kd.R_drew)); exact HO113.out) (Kd.R_base ho0) hb); have n2_ := Aside0.mk (Kd.R_elder' (by (with_reducible repeat (first | apply Kd.R_alloc | apply Kd.R_drewN | apply Kd.R_drew)); exact HO117.out) (Kd.R_base ho0) hb); have n3_ := Aside0.mk (Kd.R_elder' (by (with_reducible repeat (first | apply Kd.R_alloc | apply Kd.R_drewN | apply Kd.R_drew)); exact HO125.out) (Kd.R_base ho0) hb); have n4_ := Aside0.mk (Kd.R_lower (Kd.R_new' (Kd.R_new' (Kd.R_new' (Kd.R_new' ho0 (Kd.R_lt (by (with_reducible repeat (first | apply Kd.R_alloc | apply Kd.R_drewN | apply Kd.R_drew)); exact HO105.out))) (Kd.R_lt (by (with_reducible repeat (first | apply Kd.R_alloc | apply Kd.R_drewN | apply Kd.R_drew)); exact HO113.out))) (Kd.R_lt (by (with_reducible repeat (first | apply Kd.R_alloc | apply Kd.R_drewN | apply Kd.R_drew)); exact HO117.out))) (Kd.R_lt (by (with_reducible repeat (first | apply Kd.R_alloc | apply Kd.R_drewN | apply Kd.R_drew)); exact HO125.out))) (below_size (by repeat (first | (with_reducible first | exact HB.out | apply below_alloc | apply pw_below_drewN | apply below_drew1 | refine below_set ?_ GE101.out) | exact HB.out)))); have n5_ := Aside0.mk (blk_below (g := gb101) (o := .cells #[.int .i64 a1_0, .int .i64 a1_1, .int .i64 a1_2, .int .i64 a1_3, .int .i64 a1_4] 38 (0, 0)) (by (with_reducible repeat (first | refine blk_drewN ?_ _ | refine blk_drew ?_ | refine blk_alloc ?_ _)); exact BK101.out) hb); have n6_ := Aside0.mk (below_step (by repeat (first | (with_reducible first | exact HB.out | apply below_alloc | apply pw_below_drewN | apply below_drew1 | refine below_set ?_ GE101.out) | exact HB.out)) hb); clear HO105; clear HO113; clear HO117; clear HO125; clear BK101; clear HB; have HO105 := n0_; have HO113 := n1_; have HO117 := n2_; have HO125 := n3_; have HO130 := n4_; have BK101 := n5_; have HB := n6_; clear n0_ n1_ n2_ n3_ n4_ n5_ n6_; (try clear hb); (try clear hb2); (try clear hk); (try clear hi); (try clear ho0); obtain ⟨Ao50, co50, eo50⟩ := Kd.R_slice HO130.out; subst eo50) | ((with_reducible refine gate_callee (f := 13) rfl ?_); refine goesL_ (some 50) rfl rfl Try.func13 (by kernel_rfl) rfl #[.slice Ao44 t115.length co44, .slice Ao50 t128.length co50] rfl (by (try simp only [List.map_toArray, List.map_cons, List.map_nil]); first | done | rfl | (simp only [List.length_drop, List.length_take]; rfl)) ?_; (with_reducible refine (laws_eqHaveS.calls k _ _ t115 _ _ t128 true _ ?side1 ?side2 ?side3 ?side4 A16.out).mono ?_); (case side1 => repeat (first | exact (Kd.R_reads' HO117.out).2.2 | (with_reducible refine Kd.C_alloc ?_ _) | (with_reducible refine Kd.C_drewN ?_ _) | (with_reducible refine Kd.C_drew ?_))); (case side2 => exact (Kd.R_reads' HO117.out).2.1); (case side3 => repeat (first | exact (Kd.R_reads' HO130.out).2.2 | (with_reducible refine Kd.C_alloc ?_ _) | (with_reducible refine Kd.C_drewN ?_ _) | (with_reducible refine Kd.C_drew ?_))); (case side4 => exact (Kd.R_reads' HO130.out).2.1); rintro e w51 ⟨rfl, hb⟩; refine ⟨_, rfl, ?_⟩; have n0_ := Aside0.mk (Kd.R_below (by (with_reducible repeat (first | apply Kd.R_alloc | apply Kd.R_drewN | apply Kd.R_drew)); exact HO105.out) hb); have n1_ := Aside0.mk (Kd.R_below (by (with_reducible repeat (first | apply Kd.R_alloc | apply Kd.R_drewN | apply Kd.R_drew)); exact HO113.out) hb); have n2_ := Aside0.mk (Kd.R_below (by (with_reducible repeat (first | apply Kd.R_alloc | apply Kd.R_drewN | apply Kd.R_drew)); exact HO117.out) hb); have n3_ := Aside0.mk (Kd.R_below (by (with_reducible repeat (first | apply Kd.R_alloc | apply Kd.R_drewN | apply Kd.R_drew)); exact HO125.out) hb); have n4_ := Aside0.mk (Kd.R_below (by (with_reducible repeat (first | apply Kd.R_alloc | apply Kd.R_drewN | apply Kd.R_drew)); exact HO130.out) hb); have n5_ := Aside0.mk (blk_below (g := gb101) (o := .cells #[.int .i64 a1_0, .int .i64 a1_1, .int .i64 a1_2, .int .i64 a1_3, .int .i64 a1_4] 38 (0, 0)) (by (with_reducible repeat (first | refine blk_drewN ?_ _ | refine blk_drew ?_ | refine blk_alloc ?_ _)); exact BK101.out) hb); have n6_ := Aside0.mk (below_step (by repeat (first | (with_reducible first | exact HB.out | apply below_alloc | apply pw_below_drewN | apply below_drew1 | refine below_set ?_ GE101.out) | exact HB.out)) hb); clear HO105; clear HO113; clear HO117; clear HO125; clear HO130; clear BK101; clear HB; have HO105 := n0_; have HO113 := n1_; have HO117 := n2_; have HO125 := n3_; have HO130 := n4_; have BK101 := n5_; have HB := n6_; clear n0_ n1_ n2_ n3_ n4_ n5_ n6_; (try clear hb); (try clear hb2); (try clear hk); (try clear hi)) | ((with_reducible refine gate_callee (f := 19) rfl ?_); refine goesL_ (some 54) rfl rfl Try.func19 (by kernel_rfl) rfl #[.slice Ao44 t115.length co44, .int .i64 1] rfl (by (try simp only [List.map_toArray, List.map_cons, List.map_nil]); first | done | rfl | (simp only [List.length_drop, List.length_take]; rfl)) ?_; (with_reducible refine (laws_markHaveS.calls k (fun k_ => some k_ = (.slice Ao44 t115.length co44 : Value).ownBlock) (.slice Ao44 t115.length co44) t115 1 t132 t133 w _ ?side1 ?side2 A18.out).mono ?_); (case side1 => repeat (first | (with_reducible first | exact HB.out | apply below_alloc | apply pw_below_drewN | apply below_drew1 | refine below_set ?_ GE101.out) | exact HB.out)); (case side2 => exact Kd.R_tight rfl HO117.out); rintro e w52 ⟨rfl, hy0, hb, hkp⟩; refine ⟨_, rfl, ?_⟩; have n0_ := Aside0.mk (blk_kept (by (with_reducible repeat (first | refine blk_drewN ?_ _ | refine blk_drew ?_ | refine blk_alloc ?_ _)); exact BK101.out) hkp (fun hs_ => (fun e_ => (Kd.R_ne HO117.out BK101.out (by decide)) e_) hs_)); have n1_ := Aside0.mk (Kd.R_mono (ok' := fun k_ => some k_ ≠ (.slice Ao47 t111.length co47 : Value).ownBlock ∧ some k_ ≠ (.slice Ao44 t115.length co44 : Value).ownBlock ∧ some k_ ≠ (.slice Ao46 t123.length co46 : Value).ownBlock ∧ some k_ ≠ (.slice Ao50 t128.length co50 : Value).ownBlock) (Kd.R_keptB (HO105.out) hkp (fun k_ hk_ hs_ => (hk_.1.1.2) hs_)) (fun k_ hk_ => ⟨hk_.1.1.1.1.2, hk_.1.1.1.2, hk_.1.1.2, hk_.1.2⟩)); have n2_ := Aside0.mk (Kd.R_mono (ok' := fun k_ => some k_ ≠ (.slice Ao39 t103.length co39 : Value).ownBlock ∧ some k_ ≠ (.slice Ao44 t115.length co44 : Value).ownBlock ∧ some k_ ≠ (.slice Ao46 t123.length co46 : Value).ownBlock ∧ some k_ ≠ (.slice Ao50 t128.length co50 : Value).ownBlock) (Kd.R_keptB (HO113.out) hkp (fun k_ hk_ hs_ => (hk_.1.1.2) hs_)) (fun k_ hk_ => ⟨hk_.1.1.1.1.2, hk_.1.1.1.2, hk_.1.1.2, hk_.1.2⟩)); have n3_ := Aside0.mk (Kd.R_reok rfl hy0 (fun k_ e_ => HO117.out.1 k_ e_)); have n4_ := Aside0.mk (Kd.R_mono (ok' := fun k_ => some k_ ≠ (.slice Ao39 t103.length co39 : Value).ownBlock ∧ some k_ ≠ (.slice Ao47 t111.length co47 : Value).ownBlock ∧ some k_ ≠ (.slice Ao44 t115.length co44 : Value).ownBlock ∧ some k_ ≠ (.slice Ao50 t128.length co50 : Value).ownBlock) (Kd.R_keptB (HO125.out) hkp (fun k_ hk_ hs_ => (hk_.1.2) hs_)) (fun k_ hk_ => ⟨hk_.1.1.1.1.2, hk_.1.1.1.2, hk_.1.1.2, hk_.1.2⟩)); have n5_ := Aside0.mk (Kd.R_mono (ok' := fun k_ => some k_ ≠ (.slice Ao39 t103.length co39 : Value).ownBlock ∧ some k_ ≠ (.slice Ao47 t111.length co47 : Value).ownBlock ∧ some k_ ≠ (.slice Ao44 t115.length co44 : Value).ownBlock ∧ some k_ ≠ (.slice Ao46 t123.length co46 : Value).ownBlock) (Kd.R_keptB (HO130.out) hkp (fun k_ hk_ hs_ => (hk_.1.2) hs_)) (fun k_ hk_ => ⟨hk_.1.1.1.1.2, hk_.1.1.1.2, hk_.1.1.2, hk_.1.2⟩)); have n6_ := Aside0.mk (hb); clear BK101; clear HO105; clear HO113; clear HO117; clear HO125; clear HO130; clear HB; have BK101 := n0_; have HO105 := n1_; have HO113 := n2_; have HO117 := n3_; have HO125 := n4_; have HO130 := n5_; have HB := n6_; clear n0_ n1_ n2_ n3_ n4_ n5_ n6_; (try clear hb); (try clear hkp); (try clear hy0)) | (go_at_call 13; (with_reducible refine (laws_eqHaveS.calls k _ _ t123 _ _ t111 true _ ?side1 ?side2 ?side3 ?side4 A20.out).mono ?_); (case side1 => repeat (first | exact (Kd.R_reads' HO125.out).2.2 | (with_reducible refine Kd.C_alloc ?_ _) | (with_reducible refine Kd.C_drewN ?_ _) | (with_reducible refine Kd.C_drew ?_))); (case side2 => exact (Kd.R_reads' HO125.out).2.1); (case side3 => repeat (first | exact (Kd.R_reads' HO113.out).2.2 | (with_reducible refine Kd.C_alloc ?_ _) | (with_reducible refine Kd.C_drewN ?_ _) | (with_reducible refine Kd.C_drew ?_))); (case side4 => exact (Kd.R_reads' HO113.out).2.1); rintro e w53 ⟨rfl, hb⟩; have n0_ := Aside0.mk (Kd.R_below (by (with_reducible repeat (first | apply Kd.R_alloc | apply Kd.R_drewN | apply Kd.R_drew)); exact HO105.out) hb); have n1_ := Aside0.mk (Kd.R_below (by (with_reducible repeat (first | apply Kd.R_alloc | apply Kd.R_drewN | apply Kd.R_drew)); exact HO113.out) hb); have n2_ := Aside0.mk (Kd.R_below (by (with_reducible repeat (first | apply Kd.R_alloc | apply Kd.R_drewN | apply Kd.R_drew)); exact HO117.out) hb); have n3_ := Aside0.mk (Kd.R_below (by (with_reducible repeat (first | apply Kd.R_alloc | apply Kd.R_drewN | apply Kd.R_drew)); exact HO125.out) hb); have n4_ := Aside0.mk (Kd.R_below (by (with_reducible repeat (first | apply Kd.R_alloc | apply Kd.R_drewN | apply Kd.R_drew)); exact HO130.out) hb); have n5_ := Aside0.mk (blk_below (g := gb101) (o := .cells #[.int .i64 a1_0, .int .i64 a1_1, .int .i64 a1_2, .int .i64 a1_3, .int .i64 a1_4] 38 (0, 0)) (by (with_reducible repeat (first | refine blk_drewN ?_ _ | refine blk_drew ?_ | refine blk_alloc ?_ _)); exact BK101.out) hb); have n6_ := Aside0.mk (below_step (by repeat (first | (with_reducible first | exact HB.out | apply below_alloc | apply pw_below_drewN | apply below_drew1 | refine below_set ?_ GE101.out) | exact HB.out)) hb); clear HO105; clear HO113; clear HO117; clear HO125; clear HO130; clear BK101; clear HB; have HO105 := n0_; have HO113 := n1_; have HO117 := n2_; have HO125 := n3_; have HO130 := n4_; have BK101 := n5_; have HB := n6_; clear n0_ n1_ n2_ n3_ n4_ n5_ n6_; (try clear hb); (try clear hb2); (try clear hk); (try clear hi)) | ((with_reducible refine gate_callee (f := 19) rfl ?_); refine goesL_ (some 70) rfl rfl Try.func19 (by kernel_rfl) rfl #[.slice Ao46 t123.length co46, .int .i64 1] rfl (by (try simp only [List.map_toArray, List.map_cons, List.map_nil]); first | done | rfl | (simp only [List.length_drop, List.length_take]; rfl)) ?_; (with_reducible refine (laws_markHaveS.calls k (fun k_ => some k_ = (.slice Ao46 t123.length co46 : Value).ownBlock) (.slice Ao46 t123.length co46) t123 1 t135 t136 w _ ?side1 ?side2 A22.out).mono ?_); (case side1 => repeat (first | (with_reducible first | exact HB.out | apply below_alloc | apply pw_below_drewN | apply below_drew1 | refine below_set ?_ GE101.out) | exact HB.out)); (case side2 => exact Kd.R_tight rfl HO125.out); rintro e w54 ⟨rfl, hy0, hb, hkp⟩; refine ⟨_, rfl, ?_⟩; have n0_ := Aside0.mk (blk_kept (by (with_reducible repeat (first | refine blk_drewN ?_ _ | refine blk_drew ?_ | refine blk_alloc ?_ _)); exact BK101.out) hkp (fun hs_ => (fun e_ => (Kd.R_ne HO125.out BK101.out (by decide)) e_) hs_)); have n1_ := Aside0.mk (Kd.R_mono (ok' := fun k_ => some k_ ≠ (.slice Ao47 t111.length co47 : Value).ownBlock ∧ some k_ ≠ (.slice Ao44 t115.length co44 : Value).ownBlock ∧ some k_ ≠ (.slice Ao46 t123.length co46 : Value).ownBlock ∧ some k_ ≠ (.slice Ao50 t128.length co50 : Value).ownBlock) (Kd.R_keptB (HO105.out) hkp (fun k_ hk_ hs_ => (hk_.2.2.1) hs_)) (fun k_ hk_ => ⟨hk_.1.1, hk_.1.2.1, hk_.1.2.2.1, hk_.1.2.2.2⟩)); have n2_ := Aside0.mk (Kd.R_mono (ok' := fun k_ => some k_ ≠ (.slice Ao39 t103.length co39 : Value).ownBlock ∧ some k_ ≠ (.slice Ao44 t115.length co44 : Value).ownBlock ∧ some k_ ≠ (.slice Ao46 t123.length co46 : Value).ownBlock ∧ some k_ ≠ (.slice Ao50 t128.length co50 : Value).ownBlock) (Kd.R_keptB (HO113.out) hkp (fun k_ hk_ hs_ => (hk_.2.2.1) hs_)) (fun k_ hk_ => ⟨hk_.1.1, hk_.1.2.1, hk_.1.2.2.1, hk_.1.2.2.2⟩)); have n3_ := Aside0.mk (Kd.R_mono (ok' := fun k_ => some k_ ≠ (.slice Ao39 t103.length co39 : Value).ownBlock ∧ some k_ ≠ (.slice Ao47 t111.length co47 : Value).ownBlock ∧ some k_ ≠ (.slice Ao46 t123.length co46 : Value).ownBlock ∧ some k_ ≠ (.slice Ao50 t128.length co50 : Value).ownBlock) (Kd.R_keptB (HO117.out) hkp (fun k_ hk_ hs_ => (hk_.1.2) hs_)) (fun k_ hk_ => ⟨hk_.1.1.1.1.2, hk_.1.1.1.2, hk_.1.1.2, hk_.1.2⟩)); have n4_ := Aside0.mk (Kd.R_reok rfl hy0 (fun k_ e_ => HO125.out.1 k_ e_)); have n5_ := Aside0.mk (Kd.R_mono (ok' := fun k_ => some k_ ≠ (.slice Ao39 t103.length co39 : Value).ownBlock ∧ some k_ ≠ (.slice Ao47 t111.length co47 : Value).ownBlock ∧ some k_ ≠ (.slice Ao44 t115.length co44 : Value).ownBlock ∧ some k_ ≠ (.slice Ao46 t123.length co46 : Value).ownBlock) (Kd.R_keptB (HO130.out) hkp (fun k_ hk_ hs_ => (hk_.2.2.2) hs_)) (fun k_ hk_ => ⟨hk_.1.1, hk_.1.2.1, hk_.1.2.2.1, hk_.1.2.2.2⟩)); have n6_ := Aside0.mk (hb); clear BK101; clear HO105; clear HO113; clear HO117; clear HO125; clear HO130; clear HB; have BK101 := n0_; have HO105 := n1_; have HO113 := n2_; have HO117 := n3_; have HO125 := n4_; have HO130 := n5_; have HB := n6_; clear n0_ n1_ n2_ n3_ n4_ n5_ n6_; (try clear hb); (try clear hkp); (try clear hy0)) | ((with_reducible refine gate_callee (f := 20) rfl ?_); refine goesL_ (some 73) rfl rfl Try.func20 (by kernel_rfl) rfl #[.slice Ao46 t136.length co46, .int .i64 1] rfl (by (try simp only [List.map_toArray, List.map_cons, List.map_nil]); first | done | (rw [show t136.length = t123.length from (Kd.R_reads' HO125.out).1.symm] <;> rfl) | rfl | (simp only [List.length_drop, List.length_take]; rfl)) ?_; (with_reducible refine (laws_heldHaveS.calls k _ _ t136 1 t137 _ ?side1 ?side2 A23.out).mono ?_); (case side1 => repeat (first | exact (Kd.R_reads' HO125.out).2.2 | (with_reducible refine Kd.C_alloc ?_ _) | (with_reducible refine Kd.C_drewN ?_ _) | (with_reducible refine Kd.C_drew ?_))); (case side2 => rw [show t136.length = t123.length from (Kd.R_reads' HO125.out).1.symm]; exact (Kd.R_reads' HO125.out).2.1); rintro e w' ⟨rfl, ⟨nd, rfl⟩⟩; refine ⟨_, rfl, ?_⟩))
             (try (rw [drewN_self w54]; generalize hq_ : World.drewN w54 _ = w54; have n0_ : Aside0 (Kd.R k30 30 w54 w.heap.size (fun k_ => some k_ ≠ (.slice Ao47 t111.length co47 : Value).ownBlock ∧ some k_ ≠ (.slice Ao44 t115.length co44 : Value).ownBlock ∧ some k_ ≠ (.slice Ao46 t123.length co46 : Value).ownBlock ∧ some k_ ≠ (.slice Ao50 t128.length co50 : Value).ownBlock) (.slice Ao39 t103.length co39) t103) := ⟨by rw [← hq_]; exact (by (with_reducible repeat (first | apply Kd.R_alloc | apply Kd.R_drewN | apply Kd.R_drew)); exact HO105.out)⟩; have n1_ : Aside0 (Kd.R k30 30 w54 w.heap.size (fun k_ => some k_ ≠ (.slice Ao39 t103.length co39 : Value).ownBlock ∧ some k_ ≠ (.slice Ao44 t115.length co44 : Value).ownBlock ∧ some k_ ≠ (.slice Ao46 t123.length co46 : Value).ownBlock ∧ some k_ ≠ (.slice Ao50 t128.length co50 : Value).ownBlock) (.slice Ao47 t111.length co47) t111) := ⟨by rw [← hq_]; exact (by (with_reducible repeat (first | apply Kd.R_alloc | apply Kd.R_drewN | apply Kd.R_drew)); exact HO113.out)⟩; have n2_ : Aside0 (Kd.R k30 30 w54 w.heap.size (fun k_ => some k_ ≠ (.slice Ao39 t103.length co39 : Value).ownBlock ∧ some k_ ≠ (.slice Ao47 t111.length co47 : Value).ownBlock ∧ some k_ ≠ (.slice Ao46 t123.length co46 : Value).ownBlock ∧ some k_ ≠ (.slice Ao50 t128.length co50 : Value).ownBlock) (.slice Ao44 t115.length co44) t133) := ⟨by rw [← hq_]; exact (by (with_reducible repeat (first | apply Kd.R_alloc | apply Kd.R_drewN | apply Kd.R_drew)); exact HO117.out)⟩; have n3_ : Aside0 (Kd.R k30 30 w54 w.heap.size (fun k_ => some k_ ≠ (.slice Ao39 t103.length co39 : Value).ownBlock ∧ some k_ ≠ (.slice Ao47 t111.length co47 : Value).ownBlock ∧ some k_ ≠ (.slice Ao44 t115.length co44 : Value).ownBlock ∧ some k_ ≠ (.slice Ao50 t128.length co50 : Value).ownBlock) (.slice Ao46 t123.length co46) t136) := ⟨by rw [← hq_]; exact (by (with_reducible repeat (first | apply Kd.R_alloc | apply Kd.R_drewN | apply Kd.R_drew)); exact HO125.out)⟩; have n4_ : Aside0 (Kd.R k30 30 w54 w.heap.size (fun k_ => some k_ ≠ (.slice Ao39 t103.length co39 : Value).ownBlock ∧ some k_ ≠ (.slice Ao47 t111.length co47 : Value).ownBlock ∧ some k_ ≠ (.slice Ao44 t115.length co44 : Value).ownBlock ∧ some k_ ≠ (.slice Ao46 t123.length co46 : Value).ownBlock) (.slice Ao50 t128.length co50) t128) := ⟨by rw [← hq_]; exact (by (with_reducible repeat (first | apply Kd.R_alloc | apply Kd.R_drewN | apply Kd.R_drew)); exact HO130.out)⟩; have n5_ : Aside0 (w54.heap[gb101]? = some (.cells #[.int .i64 a1_0, .int .i64 a1_1, .int .i64 a1_2, .int .i64 a1_3, .int .i64 a1_4] 38 (0, 0))) := ⟨by rw [← hq_]; exact (by (with_reducible repeat (first | refine blk_drewN ?_ _ | refine blk_drew ?_ | refine blk_alloc ?_ _)); exact BK101.out)⟩; have n6_ : Aside0 (Below w.heap.size w w54) := ⟨by rw [← hq_]; exact (by repeat (first | (with_reducible first | exact HB.out | apply below_alloc | apply pw_below_drewN | apply below_drew1 | refine below_set ?_ GE101.out) | exact HB.out))⟩; clear HO105 HO113 HO117 HO125 HO130 BK101 HB hq_; have HO105 := n0_; have HO113 := n1_; have HO117 := n2_; have HO125 := n3_; have HO130 := n4_; have BK101 := n5_; have HB := n6_; clear n0_ n1_ n2_ n3_ n4_ n5_ n6_))
             have n0_ := Aside0.mk (Kd.R_drew HO105.out)
             have n1_ := Aside0.mk (Kd.R_drew HO113.out)
             have n2_ := Aside0.mk (Kd.R_drew HO117.out)
             have n3_ := Aside0.mk (Kd.R_drew HO125.out)
             have n4_ := Aside0.mk (Kd.R_drew HO130.out)
             have n5_ := Aside0.mk (blk_drew BK101.out)
             have n6_ := Aside0.mk (below_drew1 HB.out)
             clear HO105
             clear HO113
             clear HO117
             clear HO125
             clear HO130
             clear BK101
             clear HB
             have HO105 := n0_
             have HO113 := n1_
             have HO117 := n2_
             have HO125 := n3_
             have HO130 := n4_
             have BK101 := n5_
             have HB := n6_
             clear n0_ n1_ n2_ n3_ n4_ n5_ n6_
             refine start_ (n := 10) (S := fun w' => w'.cell? ⟨gb101, 0, none⟩ = some (.int .i64 a1_0) ∧ w'.cell? ⟨gb101, 1, none⟩ = some (.int .i64 a1_1) ∧ w'.cell? ⟨gb101, 2, none⟩ = some (.int .i64 a1_2) ∧ w'.cell? ⟨gb101, 3, none⟩ = some (.int .i64 a1_3) ∧ w'.cell? ⟨gb101, 4, none⟩ = some (.int .i64 a1_4)) (ds := []) #[false, false, false, false, false, false, false, false, false, false] (by kernel_rfl) rfl rfl ⟨(blk_cell BK101.out 0).trans rfl, (blk_cell BK101.out 1).trans rfl, (blk_cell BK101.out 2).trans rfl, (blk_cell BK101.out 3).trans rfl, (blk_cell BK101.out 4).trans rfl⟩ (fun hHeld => ?_); refine with_tabW laws_FnExactHavePut.tab24 laws_FnExactHavePut.bits24 (fun HT_ HW_ => ?_)
             generalize w54.drew = w55 at HO105 HO113 HO117 HO125 HO130 BK101 HB hHeld ⊢
             refine pure_ (i := 0) (N := some 80) (v := ?_) (a' := ?_) #[true, false, false, false, false, false, false, false, false, false] rfl rfl (any_of HT_.out (by kernel_rfl)) (fun _ _ _ h => h) (Or.inl ⟨by rfl, ?_⟩) ?_ ?_
             rotate_left
             ·
              intro w'
              go_simp
              with_reducible rfl
             rotate_left
             ·
              simp only [Act.put, List.setIfInBounds_toArray, List.set_cons_zero, List.set_cons_succ, i64_w, i32_w]
              rfl
             refine take_ (i := 2) (N := some 82) (v := ?_) (a' := ?_) #[true, false, true, false, false, false, false, false, false, false] rfl rfl (take_ofW HT_.out HW_.out (by kernel_rfl)) (fun _ _ _ h => h) (Or.inl ⟨by rfl, ?_⟩) hHeld ?_ ?_
             rotate_left
             ·
              rintro w' ⟨s0, s1, s2, s3, s4⟩
              go_simp
              with_reducible rfl
             rotate_left
             ·
              simp only [Act.put, List.setIfInBounds_toArray, List.set_cons_zero, List.set_cons_succ, i64_w, i32_w]
              rfl
             refine one_ (i := 1) (N := some 81) #[true, true, true, false, false, false, false, false, false, false] rfl rfl (one_of HT_.out (by kernel_rfl)) (by decide) (fun K hK => ?_)
             refine goes_ Try.func11 (by kernel_rfl) rfl #[.slice A0 l0.length c0] (by rfl) rfl rfl (by (try simp only [List.map_toArray, List.map_cons, List.map_nil]); first | done | rfl | (simp only [List.length_drop, List.length_take]; rfl)) ?_
             with_reducible refine (laws_toHaveS.calls k _ _ l0 t138 _ ?side1 ?side2 A26.out).mono ?_
             (case side1 => repeat (first | exact (Kd.C_below HR0.out HB.out) | (with_reducible refine Kd.C_alloc ?_ _) | (with_reducible refine Kd.C_drewN ?_ _) | (with_reducible refine Kd.C_drew ?_)))
             (case side2 => exact HC0.out)
             rintro e w56 ⟨v139, rfl, ho0, hb⟩
             refine ⟨_, rfl, ?_⟩
             have n0_ := Aside0.mk (Kd.R_elder' (by (with_reducible repeat (first | apply Kd.R_alloc | apply Kd.R_drewN | apply Kd.R_drew)); exact HO105.out) (Kd.R_base ho0) hb)
             have n1_ := Aside0.mk (Kd.R_elder' (by (with_reducible repeat (first | apply Kd.R_alloc | apply Kd.R_drewN | apply Kd.R_drew)); exact HO113.out) (Kd.R_base ho0) hb)
             have n2_ := Aside0.mk (Kd.R_elder' (by (with_reducible repeat (first | apply Kd.R_alloc | apply Kd.R_drewN | apply Kd.R_drew)); exact HO117.out) (Kd.R_base ho0) hb)
             have n3_ := Aside0.mk (Kd.R_elder' (by (with_reducible repeat (first | apply Kd.R_alloc | apply Kd.R_drewN | apply Kd.R_drew)); exact HO125.out) (Kd.R_base ho0) hb)
             have n4_ := Aside0.mk (Kd.R_elder' (by (with_reducible repeat (first | apply Kd.R_alloc | apply Kd.R_drewN | apply Kd.R_drew)); exact HO130.out) (Kd.R_base ho0) hb)
             have n5_ := Aside0.mk (Kd.R_lower (Kd.R_new' (Kd.R_new' (Kd.R_new' (Kd.R_new' (Kd.R_new' ho0 (Kd.R_lt (by (with_reducible repeat (first | apply Kd.R_alloc | apply Kd.R_drewN | apply Kd.R_drew)); exact HO105.out))) (Kd.R_lt (by (with_reducible repeat (first | apply Kd.R_alloc | apply Kd.R_drewN | apply Kd.R_drew)); exact HO113.out))) (Kd.R_lt (by (with_reducible repeat (first | apply Kd.R_alloc | apply Kd.R_drewN | apply Kd.R_drew)); exact HO117.out))) (Kd.R_lt (by (with_reducible repeat (first | apply Kd.R_alloc | apply Kd.R_drewN | apply Kd.R_drew)); exact HO125.out))) (Kd.R_lt (by (with_reducible repeat (first | apply Kd.R_alloc | apply Kd.R_drewN | apply Kd.R_drew)); exact HO130.out))) (below_size (by repeat (first | (with_reducible first | exact HB.out | apply below_alloc | apply pw_below_drewN | apply below_drew1 | refine below_set ?_ GE101.out) | exact HB.out))))
             have n6_ := Aside0.mk (blk_below (g := gb101) (o := .cells #[.int .i64 a1_0, .int .i64 a1_1, .int .i64 a1_2, .int .i64 a1_3, .int .i64 a1_4] 38 (0, 0)) (by (with_reducible repeat (first | refine blk_drewN ?_ _ | refine blk_drew ?_ | refine blk_alloc ?_ _)); exact BK101.out) hb)
             have n7_ := Aside0.mk (below_step (by repeat (first | (with_reducible first | exact HB.out | apply below_alloc | apply pw_below_drewN | apply below_drew1 | refine below_set ?_ GE101.out) | exact HB.out)) hb)
             clear HO105
             clear HO113
             clear HO117
             clear HO125
             clear HO130
             clear BK101
             clear HB
             have HO105 := n0_
             have HO113 := n1_
             have HO117 := n2_
             have HO125 := n3_
             have HO130 := n4_
             have HO140 := n5_
             have BK101 := n6_
             have HB := n7_
             clear n0_ n1_ n2_ n3_ n4_ n5_ n6_ n7_
             (try clear hb)
             (try clear hb2)
             (try clear hk)
             (try clear hi)
             (try clear ho0)
             refine hK.out _ _ ⟨(blk_cell BK101.out 0).trans rfl, (blk_cell BK101.out 1).trans rfl, (blk_cell BK101.out 2).trans rfl, (blk_cell BK101.out 3).trans rfl, (blk_cell BK101.out 4).trans rfl⟩ (fun hHeld => ?_)
             clear hK K
             refine norm_ (a' := ?_) ?_ ?_
             rotate_left
             ·
              show Act.put _ (some 81) _ = _
              simp only [Act.put, List.setIfInBounds_toArray, List.set_cons_zero, List.set_cons_succ, i64_w, i32_w]
              rfl
             refine one_ (i := 3) (N := some 83) #[true, true, true, true, false, false, false, false, false, false] rfl rfl (one_of HT_.out (by kernel_rfl)) (by decide) (fun K hK => ?_)
             refine goes_ Try.func22 (by kernel_rfl) rfl #[.agg #[.int .i64 a1_0, .int .i64 a1_1, .int .i64 a1_2, .int .i64 a1_3, .int .i64 a1_4]] (by rfl) rfl rfl (by (try simp only [List.map_toArray, List.map_cons, List.map_nil]); first | done | rfl | (simp only [List.length_drop, List.length_take]; rfl)) ?_
             with_reducible refine (laws_toHave.calls a1_0 a1_1 a1_2 a1_3 a1_4 t141 t142 t143 t144 t145 _ A27.out).mono ?_
             rintro e w57 ⟨rfl, hb⟩
             refine ⟨_, rfl, ?_⟩
             have n0_ := Aside0.mk (Kd.R_below (by (with_reducible repeat (first | apply Kd.R_alloc | apply Kd.R_drewN | apply Kd.R_drew)); exact HO105.out) hb)
             have n1_ := Aside0.mk (Kd.R_below (by (with_reducible repeat (first | apply Kd.R_alloc | apply Kd.R_drewN | apply Kd.R_drew)); exact HO113.out) hb)
             have n2_ := Aside0.mk (Kd.R_below (by (with_reducible repeat (first | apply Kd.R_alloc | apply Kd.R_drewN | apply Kd.R_drew)); exact HO117.out) hb)
             have n3_ := Aside0.mk (Kd.R_below (by (with_reducible repeat (first | apply Kd.R_alloc | apply Kd.R_drewN | apply Kd.R_drew)); exact HO125.out) hb)
             have n4_ := Aside0.mk (Kd.R_below (by (with_reducible repeat (first | apply Kd.R_alloc | apply Kd.R_drewN | apply Kd.R_drew)); exact HO130.out) hb)
             have n5_ := Aside0.mk (Kd.R_below (by (with_reducible repeat (first | apply Kd.R_alloc | apply Kd.R_drewN | apply Kd.R_drew)); exact HO140.out) hb)
             have n6_ := Aside0.mk (blk_below (g := gb101) (o := .cells #[.int .i64 a1_0, .int .i64 a1_1, .int .i64 a1_2, .int .i64 a1_3, .int .i64 a1_4] 38 (0, 0)) (by (with_reducible repeat (first | refine blk_drewN ?_ _ | refine blk_drew ?_ | refine blk_alloc ?_ _)); exact BK101.out) hb)
             have n7_ := Aside0.mk (below_step (by repeat (first | (with_reducible first | exact HB.out | apply below_alloc | apply pw_below_drewN | apply below_drew1 | refine below_set ?_ GE101.out) | exact HB.out)) hb)
             clear HO105
             clear HO113
             clear HO117
             clear HO125
             clear HO130
             clear HO140
             clear BK101
             clear HB
             have HO105 := n0_
             have HO113 := n1_
             have HO117 := n2_
             have HO125 := n3_
             have HO130 := n4_
             have HO140 := n5_
             have BK101 := n6_
             have HB := n7_
             clear n0_ n1_ n2_ n3_ n4_ n5_ n6_ n7_
             (try clear hb)
             (try clear hb2)
             (try clear hk)
             (try clear hi)
             obtain ⟨Ao58, co58, eo58⟩ := Kd.R_slice HO140.out
             (first | subst eo58 | (injection eo58 with f1_ f2_ f3_; have f4_ := f1_.symm; have f5_ := f3_.symm; clear f1_ f2_ f3_; subst f4_; subst f5_))
             refine hK.out _ _ ⟨(blk_cell BK101.out 0).trans rfl, (blk_cell BK101.out 1).trans rfl, (blk_cell BK101.out 2).trans rfl, (blk_cell BK101.out 3).trans rfl, (blk_cell BK101.out 4).trans rfl⟩ (fun hHeld => ?_)
             clear hK K
             refine norm_ (a' := ?_) ?_ ?_
             rotate_left
             ·
              show Act.put _ (some 83) _ = _
              simp only [Act.put, List.setIfInBounds_toArray, List.set_cons_zero, List.set_cons_succ, i64_w, i32_w]
              rfl
             refine one_ (i := 4) (N := some 84) #[true, true, true, true, true, false, false, false, false, false] rfl rfl (one_of HT_.out (by kernel_rfl)) (by decide) (fun K hK => ?_)
             refine goes_ Try.func23 (by kernel_rfl) rfl #[.slice Ao58 t138.length co58, .agg #[.int .i64 t141, .int .i64 t142, .int .i64 t143, .int .i64 t144, .int .i64 t145]] (by rfl) rfl rfl (by (try simp only [List.map_toArray, List.map_cons, List.map_nil]); first | done | rfl | (simp only [List.length_drop, List.length_take]; rfl)) ?_
             with_reducible refine (impl_HavePut.calls k _ _ t138 t141 t142 t143 t144 t145 t146 t149 _ ?side1 ?side2 A28.out).mono ?_
             (case side1 => repeat (first | exact (Kd.R_reads' HO140.out).2.2 | (with_reducible refine Kd.C_alloc ?_ _) | (with_reducible refine Kd.C_drewN ?_ _) | (with_reducible refine Kd.C_drew ?_)))
             (case side2 => exact (Kd.R_reads' HO140.out).2.1)
             rintro e w59 ⟨v147, rfl, ho0, hb⟩
             refine ⟨_, rfl, ?_⟩
             have n0_ := Aside0.mk (Kd.R_elder' (by (with_reducible repeat (first | apply Kd.R_alloc | apply Kd.R_drewN | apply Kd.R_drew)); exact HO105.out) (Kd.R_base ho0) hb)
             have n1_ := Aside0.mk (Kd.R_elder' (by (with_reducible repeat (first | apply Kd.R_alloc | apply Kd.R_drewN | apply Kd.R_drew)); exact HO113.out) (Kd.R_base ho0) hb)
             have n2_ := Aside0.mk (Kd.R_elder' (by (with_reducible repeat (first | apply Kd.R_alloc | apply Kd.R_drewN | apply Kd.R_drew)); exact HO117.out) (Kd.R_base ho0) hb)
             have n3_ := Aside0.mk (Kd.R_elder' (by (with_reducible repeat (first | apply Kd.R_alloc | apply Kd.R_drewN | apply Kd.R_drew)); exact HO125.out) (Kd.R_base ho0) hb)
             have n4_ := Aside0.mk (Kd.R_elder' (by (with_reducible repeat (first | apply Kd.R_alloc | apply Kd.R_drewN | apply Kd.R_drew)); exact HO130.out) (Kd.R_base ho0) hb)
             have n5_ := Aside0.mk (Kd.R_elder' (by (with_reducible repeat (first | apply Kd.R_alloc | apply Kd.R_drewN | apply Kd.R_drew)); exact HO140.out) (Kd.R_base ho0) hb)
             have n6_ := Aside0.mk (Kd.R_lower (Kd.R_new' (Kd.R_new' (Kd.R_new' (Kd.R_new' (Kd.R_new' (Kd.R_new' ho0 (Kd.R_lt (by (with_reducible repeat (first | apply Kd.R_alloc | apply Kd.R_drewN | apply Kd.R_drew)); exact HO105.out))) (Kd.R_lt (by (with_reducible repeat (first | apply Kd.R_alloc | apply Kd.R_drewN | apply Kd.R_drew)); exact HO113.out))) (Kd.R_lt (by (with_reducible repeat (first | apply Kd.R_alloc | apply Kd.R_drewN | apply Kd.R_drew)); exact HO117.out))) (Kd.R_lt (by (with_reducible repeat (first | apply Kd.R_alloc | apply Kd.R_drewN | apply Kd.R_drew)); exact HO125.out))) (Kd.R_lt (by (with_reducible repeat (first | apply Kd.R_alloc | apply Kd.R_drewN | apply Kd.R_drew)); exact HO130.out))) (Kd.R_lt (by (with_reducible repeat (first | apply Kd.R_alloc | apply Kd.R_drewN | apply Kd.R_drew)); exact HO140.out))) (below_size (by repeat (first | (with_reducible first | exact HB.out | apply below_alloc | apply pw_below_drewN | apply below_drew1 | refine below_set ?_ GE101.out) | exact HB.out))))
             have n7_ := Aside0.mk (blk_below (g := gb101) (o := .cells #[.int .i64 a1_0, .int .i64 a1_1, .int .i64 a1_2, .int .i64 a1_3, .int .i64 a1_4] 38 (0, 0)) (by (with_reducible repeat (first | refine blk_drewN ?_ _ | refine blk_drew ?_ | refine blk_alloc ?_ _)); exact BK101.out) hb)
             have n8_ := Aside0.mk (below_step (by repeat (first | (with_reducible first | exact HB.out | apply below_alloc | apply pw_below_drewN | apply below_drew1 | refine below_set ?_ GE101.out) | exact HB.out)) hb)
             clear HO105
             clear HO113
             clear HO117
             clear HO125
             clear HO130
             clear HO140
             clear BK101
             clear HB
             have HO105 := n0_
             have HO113 := n1_
             have HO117 := n2_
             have HO125 := n3_
             have HO130 := n4_
             have HO140 := n5_
             have HO148 := n6_
             have BK101 := n7_
             have HB := n8_
             clear n0_ n1_ n2_ n3_ n4_ n5_ n6_ n7_ n8_
             (try clear hb)
             (try clear hb2)
             (try clear hk)
             (try clear hi)
             (try clear ho0)
             refine hK.out _ _ ⟨(blk_cell BK101.out 0).trans rfl, (blk_cell BK101.out 1).trans rfl, (blk_cell BK101.out 2).trans rfl, (blk_cell BK101.out 3).trans rfl, (blk_cell BK101.out 4).trans rfl⟩ (fun hHeld => ?_)
             clear hK K
             refine norm_ (a' := ?_) ?_ ?_
             rotate_left
             ·
              show Act.put _ (some 84) _ = _
              simp only [Act.put, List.setIfInBounds_toArray, List.set_cons_zero, List.set_cons_succ, i64_w, i32_w]
              rfl
             refine pure_ (i := 5) (N := some 79) (v := ?_) (a' := ?_) #[true, true, true, true, true, true, false, false, false, false] rfl rfl (any_of HT_.out (by kernel_rfl)) (fun _ _ _ h => h) (Or.inl ⟨by rfl, ?_⟩) ?_ ?_
             rotate_left
             ·
              intro w'
              go_simp
              with_reducible rfl
             rotate_left
             ·
              simp only [Act.put, List.setIfInBounds_toArray, List.set_cons_zero, List.set_cons_succ, i64_w, i32_w]
              rfl
             refine pure_ (i := 6) (N := some 85) (v := ?_) (a' := ?_) #[true, true, true, true, true, true, true, false, false, false] rfl rfl (any_of HT_.out (by kernel_rfl)) (fun _ _ _ h => h) (Or.inl ⟨by rfl, ?_⟩) ?_ ?_
             rotate_left
             ·
              intro w'
              go_simp
              with_reducible rfl
             rotate_left
             ·
              simp only [Act.put, List.setIfInBounds_toArray, List.set_cons_zero, List.set_cons_succ, i64_w, i32_w]
              rfl
             refine pure_ (i := 7) (N := some 86) (v := ?_) (a' := ?_) #[true, true, true, true, true, true, true, true, false, false] rfl rfl (any_of HT_.out (by kernel_rfl)) (fun _ _ _ h => h) (Or.inl ⟨by rfl, ?_⟩) ?_ ?_
             rotate_left
             ·
              intro w'
              go_simp
              with_reducible rfl
             rotate_left
             ·
              simp only [Act.put, List.setIfInBounds_toArray, List.set_cons_zero, List.set_cons_succ, i64_w, i32_w]
              rfl
             refine pure_ (i := 8) (N := some 14) (v := ?_) (a' := ?_) #[true, true, true, true, true, true, true, true, true, false] rfl rfl (any_of HT_.out (by kernel_rfl)) (fun _ _ _ h => h) (Or.inl ⟨by rfl, ?_⟩) ?_ ?_
             rotate_left
             ·
              intro w'
              go_simp
              with_reducible rfl
             rotate_left
             ·
              simp only [Act.put, List.setIfInBounds_toArray, List.set_cons_zero, List.set_cons_succ, i64_w, i32_w]
              rfl
             refine pure_ (i := 9) (N := some 15) (v := ?_) (a' := ?_) #[true, true, true, true, true, true, true, true, true, true] rfl rfl (any_of HT_.out (by kernel_rfl)) (fun _ _ _ h => h) (Or.inl ⟨by rfl, ?_⟩) ?_ ?_
             rotate_left
             ·
              intro w'
              go_simp
              with_reducible rfl
             rotate_left
             ·
              simp only [Act.put, List.setIfInBounds_toArray, List.set_cons_zero, List.set_cons_succ, i64_w, i32_w]
              rfl
             refine done_ (done_of HT_.out (by kernel_rfl)) ?_
             obtain ⟨Ao60, co60, eo60⟩ := Kd.R_slice HO148.out
             subst eo60
             try go_wp2_with (first | ((with_reducible refine gate_callee (f := 13) rfl ?_); refine goesL_ (some 89) rfl rfl Try.func13 (by kernel_rfl) rfl #[.slice Ao60 t146.length co60, .slice Ao47 t111.length co47] rfl (by (try simp only [List.map_toArray, List.map_cons, List.map_nil]); first | done | rfl | (simp only [List.length_drop, List.length_take]; rfl)) ?_; (with_reducible refine (laws_eqHaveS.calls k _ _ t146 _ _ t111 true _ ?side1 ?side2 ?side3 ?side4 A29.out).mono ?_); (case side1 => repeat (first | exact (Kd.R_reads' HO148.out).2.2 | (with_reducible refine Kd.C_alloc ?_ _) | (with_reducible refine Kd.C_drewN ?_ _) | (with_reducible refine Kd.C_drew ?_))); (case side2 => exact (Kd.R_reads' HO148.out).2.1); (case side3 => repeat (first | exact (Kd.R_reads' HO113.out).2.2 | (with_reducible refine Kd.C_alloc ?_ _) | (with_reducible refine Kd.C_drewN ?_ _) | (with_reducible refine Kd.C_drew ?_))); (case side4 => exact (Kd.R_reads' HO113.out).2.1); rintro e w61 ⟨rfl, hb⟩; refine ⟨_, rfl, ?_⟩; have n0_ := Aside0.mk (Kd.R_below (by (with_reducible repeat (first | apply Kd.R_alloc | apply Kd.R_drewN | apply Kd.R_drew)); exact HO105.out) hb); have n1_ := Aside0.mk (Kd.R_below (by (with_reducible repeat (first | apply Kd.R_alloc | apply Kd.R_drewN | apply Kd.R_drew)); exact HO113.out) hb); have n2_ := Aside0.mk (Kd.R_below (by (with_reducible repeat (first | apply Kd.R_alloc | apply Kd.R_drewN | apply Kd.R_drew)); exact HO117.out) hb); have n3_ := Aside0.mk (Kd.R_below (by (with_reducible repeat (first | apply Kd.R_alloc | apply Kd.R_drewN | apply Kd.R_drew)); exact HO125.out) hb); have n4_ := Aside0.mk (Kd.R_below (by (with_reducible repeat (first | apply Kd.R_alloc | apply Kd.R_drewN | apply Kd.R_drew)); exact HO130.out) hb); have n5_ := Aside0.mk (Kd.R_below (by (with_reducible repeat (first | apply Kd.R_alloc | apply Kd.R_drewN | apply Kd.R_drew)); exact HO140.out) hb); have n6_ := Aside0.mk (Kd.R_below (by (with_reducible repeat (first | apply Kd.R_alloc | apply Kd.R_drewN | apply Kd.R_drew)); exact HO148.out) hb); have n7_ := Aside0.mk (below_step (by repeat (first | (with_reducible first | exact HB.out | apply below_alloc | apply pw_below_drewN | apply below_drew1) | exact HB.out)) hb); clear HO105; clear HO113; clear HO117; clear HO125; clear HO130; clear HO140; clear HO148; clear HB; have HO105 := n0_; have HO113 := n1_; have HO117 := n2_; have HO125 := n3_; have HO130 := n4_; have HO140 := n5_; have HO148 := n6_; have HB := n7_; clear n0_ n1_ n2_ n3_ n4_ n5_ n6_ n7_; (try clear hb); (try clear hb2); (try clear hk); (try clear hi)) | ((with_reducible refine gate_callee (f := 20) rfl ?_); refine goesL_ (some 98) rfl rfl Try.func20 (by kernel_rfl) rfl #[.slice Ao46 t136.length co46, .int .i64 1] rfl (by (try simp only [List.map_toArray, List.map_cons, List.map_nil]); first | done | (rw [show t136.length = t123.length from (Kd.R_reads' HO125.out).1.symm] <;> rfl) | rfl | (simp only [List.length_drop, List.length_take]; rfl)) ?_; (with_reducible refine (laws_heldHaveS.calls k _ _ t136 1 t151 _ ?side1 ?side2 A32.out).mono ?_); (case side1 => repeat (first | exact (Kd.R_reads' HO125.out).2.2 | (with_reducible refine Kd.C_alloc ?_ _) | (with_reducible refine Kd.C_drewN ?_ _) | (with_reducible refine Kd.C_drew ?_))); (case side2 => rw [show t136.length = t123.length from (Kd.R_reads' HO125.out).1.symm]; exact (Kd.R_reads' HO125.out).2.1); rintro e w' ⟨rfl, ⟨nd, rfl⟩⟩; refine ⟨_, rfl, ?_⟩))
             go_ret
             exact ⟨by first | rfl | (simp [errW_none, errW_some] <;> rfl) | (simp [*, errW_none, errW_some] <;> rfl), by repeat (first | (with_reducible first | exact HB.out | apply below_alloc | apply pw_below_drewN | apply below_drew1) | exact HB.out)⟩
            ·
             rw [if_neg c34] at H
             have c34b0 : (t151 == t135) = false := beq_eq_false_iff_ne.mpr c34
             have c34b1 : (t151 != t135) = true := bne_iff_ne.mpr c34
             exact absurd ((Option.some.inj H).trans hrt) (by simp)
         ·
          replace c30 := Bool.eq_false_iff.mpr c30
          subst c30
          have H1 : (some false) = some r := by rw [if_neg (show ¬ (false = true) by decide)] at H; exact H
          clear H
          have H := H1
          clear H1
          exact absurd ((Option.some.inj H).trans hrt) (by simp)
        ·
         rw [if_neg c25] at H
         have c25b0 : (t137 == t135) = false := beq_eq_false_iff_ne.mpr c25
         have c25b1 : (t137 != t135) = true := bne_iff_ne.mpr c25
         exact absurd ((Option.some.inj H).trans hrt) (by simp)
      ·
       replace c21 := Bool.eq_false_iff.mpr c21
       subst c21
       have H1 : (some false) = some r := by rw [if_neg (show ¬ (false = true) by decide)] at H; exact H
       clear H
       have H := H1
       clear H1
       exact absurd ((Option.some.inj H).trans hrt) (by simp)
    ·
     replace c17 := Bool.eq_false_iff.mpr c17
     subst c17
     have H1 : (some false) = some r := by rw [if_neg (show ¬ (false = true) by decide)] at H; exact H
     clear H
     have H := H1
     clear H1
     exact absurd ((Option.some.inj H).trans hrt) (by simp)
  ·
   replace c13 := Bool.eq_false_iff.mpr c13
   subst c13
   have H1 : (some false) = some r := by rw [if_neg (show ¬ (false = true) by decide)] at H; exact H
   clear H
   have H := H1
   clear H1
   exact absurd ((Option.some.inj H).trans hrt) (by simp)

/-- THE ONE PURE STATEMENT of laws_FnExactHavePut: yours. -/
def laws_FnExactHavePut.Pure : Prop := ∀ (l0 : List (S38)) (a1_0 : Int) (a1_1 : Int) (a1_2 : Int) (a1_3 : Int) (a1_4 : Int), (O.okL ok38) l0 → (O.okI .i64) a1_0 → (O.okI .i64) a1_1 → (O.okI .i64) a1_2 → (O.okI .i64) a1_3 → (O.okI .i64) a1_4 → ∃ k, laws_FnExactHavePut.f k l0 a1_0 a1_1 a1_2 a1_3 a1_4 = some true
theorem laws_FnExactHavePut.walk (P : laws_FnExactHavePut.Pure) (A0 : Option Addr) (c0 : Nat) (l0 : List (S38)) (a1_0 : Int) (a1_1 : Int) (a1_2 : Int) (a1_3 : Int) (a1_4 : Int) (w : World) (hr0 : Kd.C k38 w A0 l0.length l0) (hc0 : l0.length ≤ c0) (hk0 : (O.okL ok38) l0) (hk1_0 : (O.okI .i64) a1_0) (hk1_1 : (O.okI .i64) a1_1) (hk1_2 : (O.okI .i64) a1_2) (hk1_3 : (O.okI .i64) a1_3) (hk1_4 : (O.okI .i64) a1_4) :
  Calls Try.prog 6 #[.slice A0 l0.length c0, .agg #[.int .i64 a1_0, .int .i64 a1_1, .int .i64 a1_2, .int .i64 a1_3, .int .i64 a1_4]] w fun e w' => e = .returned (.bool true) ∧ Below w.heap.size w w' := by
 obtain ⟨k, h⟩ := P l0 a1_0 a1_1 a1_2 a1_3 a1_4 hk0 hk1_0 hk1_1 hk1_2 hk1_3 hk1_4
 refine (laws_FnExactHavePut.calls k A0 c0 l0 a1_0 a1_1 a1_2 a1_3 a1_4 true w hr0 hc0 rfl h).mono ?_
 rintro e w' ⟨rfl, hd⟩
 exact ⟨rfl, hd⟩

end Go.Proofs.Ytceilcdhflcbpaa.XA
