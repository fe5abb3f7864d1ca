/- Each operation of the small machine is Go's own: all of them in one word. -/
import Derived.Test.YtdplmjlbkaipiaaE9
namespace Go.Proofs.Ytdplmjlbkaipiaa.Ev
set_option linter.all false
open Go

section
variable {P : Program} {B N nt : Nat} {o : Oper} {J : Inj} {s : St} {a : Act} {w : World}

theorem cxs_one {xs : List Operand} {p : X} (h : cxs xs = some [p]) : ∃ x, xs = [x] ∧ cx x = some p := by
  cases xs with
  | nil => simp [cxs] at h
  | cons x xs =>
    simp only [cxs] at h
    split at h
    · rename_i v vs e1 e2
      cases h
      cases xs with
      | nil => exact ⟨x, rfl, e1⟩
      | cons y ys =>
        simp only [cxs] at e2
        split at e2 <;> cases e2
    · cases h

theorem cxs_two {xs : List Operand} {p q : X} (h : cxs xs = some [p, q]) : ∃ x y, xs = [x, y] ∧ cx x = some p ∧ cx y = some q := by
  cases xs with
  | nil => simp [cxs] at h
  | cons x xs =>
    simp only [cxs] at h
    split at h
    · rename_i v vs e1 e2
      cases h
      obtain ⟨y, rfl, hy⟩ := cxs_one e2
      exact ⟨x, y, rfl, e1, hy⟩
    · cases h

theorem callee_none {k : CK} {f : FV} {s' : St} {m : Md} (h : stepK m s k = some (f, s')) : callee s k = none := by
  cases k <;> first | rfl | (simp [stepK] at h)

/-- One operation, no call. -/
theorem simK {m : Md} {hv : Nat → Bool} (hm : ∀ id, m.wr id = true → B ≤ id) {k : CK} (hk : compK0 P hv o.dst o = some k) (R : Rel B N nt J s a w) (hB : B ≤ s.H.length) (hd : ∀ d, o.dst = some d → d < nt) {f : FV} {s' : St} (h : stepK m s k = some (f, s')) :
    Sim P B N nt o J s a w f s' := by
  unfold compK0 at hk
  simp only [Option.bind_eq_bind, Option.pure_def] at hk
  split at hk
  · rename_i x hop
    obtain ⟨y, hy, hk⟩ := Option.bind_eq_some_iff.1 hk; cases hk
    exact sim_mov (.inl hop) hy R hd h
  · rename_i x hop
    obtain ⟨y, hy, hk⟩ := Option.bind_eq_some_iff.1 hk; cases hk
    exact sim_mov (.inr hop) hy R hd h
  · rename_i c p q hop
    obtain ⟨y1, h1, hk⟩ := Option.bind_eq_some_iff.1 hk
    obtain ⟨y2, h2, hk⟩ := Option.bind_eq_some_iff.1 hk
    obtain ⟨y3, h3, hk⟩ := Option.bind_eq_some_iff.1 hk; cases hk
    exact sim_pick hop h1 h2 h3 R hd h
  · rename_i t hop
    obtain ⟨z, hz, hk⟩ := Option.bind_eq_some_iff.1 hk
    obtain ⟨d, hdst, hk⟩ := Option.bind_eq_some_iff.1 hk; cases hk
    split at h
    · exact sim_newV hop hdst hz R (hd d hdst) h
    · exact sim_newO hop hz R hB hd h
  · rename_i t x hop
    obtain ⟨d, hdst, hk⟩ := Option.bind_eq_some_iff.1 hk
    obtain ⟨y, hy, hk⟩ := Option.bind_eq_some_iff.1 hk; cases hk
    split at h
    · exact sim_boxV hop hdst hy R (hd d hdst) h
    · exact sim_boxO hop hy R hB hd h
  · rename_i t ps hop
    obtain ⟨i, hi, hk⟩ := Option.bind_eq_some_iff.1 hk
    obtain ⟨z, hz, hk⟩ := Option.bind_eq_some_iff.1 hk
    split at hk
    · rename_i cs fs hu
      split at hk
      · rename_i hc
        simp only [Bool.and_eq_true] at hc
        obtain ⟨xs, hxs, hk⟩ := Option.bind_eq_some_iff.1 hk; cases hk
        exact sim_build hop hi hz hc.2 (.inl ⟨fs, hu, hc.1⟩) hxs R hd h
      · cases hk
    · rename_i cs n e hu
      split at hk
      · rename_i hc
        obtain ⟨xs, hxs, hk⟩ := Option.bind_eq_some_iff.1 hk; cases hk
        exact sim_build hop hi hz hc (.inr ⟨n, e, hu⟩) hxs R hd h
      · cases hk
    · cases hk
  · rename_i t len ps hop
    obtain ⟨dt, ht, hk⟩ := Option.bind_eq_some_iff.1 hk
    split at hk
    · rename_i e
      obtain ⟨z, hz, hk⟩ := Option.bind_eq_some_iff.1 hk
      obtain ⟨d, hdst, hk⟩ := Option.bind_eq_some_iff.1 hk
      obtain ⟨xs, hxs, hk⟩ := Option.bind_eq_some_iff.1 hk
      split at hk
      · rename_i hbig
        cases hk
        split at h
        · exact sim_mkV hop hdst ht hz hxs hbig R (hd d hdst) h
        · exact sim_mkO hop ht hz hxs hbig R hB hd h
      · cases hk
    · cases hk
  · rename_i t x hop
    obtain ⟨⟨n, agg⟩, hi, hk⟩ := Option.bind_eq_some_iff.1 hk
    obtain ⟨y, hy, hk⟩ := Option.bind_eq_some_iff.1 hk; cases hk
    exact sim_load hop hi hy R hd h
  · rename_i t x v hop
    split at hk
    · rename_i hdst
      obtain ⟨⟨n, agg⟩, hi, hk⟩ := Option.bind_eq_some_iff.1 hk
      obtain ⟨y, hy, hk⟩ := Option.bind_eq_some_iff.1 hk
      obtain ⟨z, hz, hk⟩ := Option.bind_eq_some_iff.1 hk; cases hk
      exact sim_store hm hop hdst hi hy hz R h
    · cases hk
  · rename_i x hop
    obtain ⟨y, hy, hk⟩ := Option.bind_eq_some_iff.1 hk; cases hk
    exact sim_nilc hop hy R hd h
  · rename_i op t x y ty hop
    obtain ⟨x', hx, hk⟩ := Option.bind_eq_some_iff.1 hk
    obtain ⟨y', hy, hk⟩ := Option.bind_eq_some_iff.1 hk
    split at hk
    · rename_i ht
      split at hk
      · cases hk; exact sim_beq hop (.inl ⟨rfl, rfl⟩) ht hx hy R hd h
      · cases hk; exact sim_beq hop (.inr ⟨rfl, rfl⟩) ht hx hy R hd h
      · cases hk
    · rename_i fs ht
      split at hk
      · rename_i ks hks
        split at hk
        · cases hk
        · rename_i hst
          simp only [Bool.or_eq_true, not_or, Bool.not_eq_true] at hst
          split at hk
          · cases hk; exact sim_aeq hop (.inl ⟨rfl, rfl⟩) ht hks hst.1 hst.2 hx hy R hd h
          · cases hk; exact sim_aeq hop (.inr ⟨rfl, rfl⟩) ht hks hst.1 hst.2 hx hy R hd h
          · cases hk
      · cases hk
    · cases hk; exact sim_bin hop hx hy R hd h
    · cases hk; exact sim_bin hop hx hy R hd h
    · cases hk
  · rename_i op t x hop
    obtain ⟨y, hy, hk⟩ := Option.bind_eq_some_iff.1 hk; cases hk
    exact sim_un hop hy R hd h
  · rename_i sr ds x hop
    obtain ⟨y, hy, hk⟩ := Option.bind_eq_some_iff.1 hk
    split at hk
    · rename_i k0 k1 hs hds
      cases hk; exact sim_toInt hop hs hds hy R hd h
    · rename_i hs hds
      cases hk; exact sim_str hop hs hds hy R hd h
    · rename_i e hs hds
      split at hk
      · rename_i i he hi
        split at hk
        · cases hk; exact sim_s2b (esz := 1) hop hs hds he hy R hB hd h rfl
        · cases hk
      · cases hk
    · rename_i e hs hds
      split at hk
      · rename_i i he hi
        split at hk
        · cases hk; exact sim_b2s hop hs hds he hy R hd h
        · cases hk
      · cases hk
    · cases hk
  · rename_i g first caps hop
    split at hk
    · rename_i hf
      obtain ⟨ys, hys, hk⟩ := Option.bind_eq_some_iff.1 hk; cases hk
      exact sim_fn hop hf hys R hd h
    · cases hk
  · rename_i t l c hop
    obtain ⟨dt, ht, hk⟩ := Option.bind_eq_some_iff.1 hk
    split at hk
    · rename_i e
      obtain ⟨z, hz, hk⟩ := Option.bind_eq_some_iff.1 hk
      obtain ⟨i, hi, hk⟩ := Option.bind_eq_some_iff.1 hk
      obtain ⟨x, hx, hk⟩ := Option.bind_eq_some_iff.1 hk
      obtain ⟨y, hy, hk⟩ := Option.bind_eq_some_iff.1 hk; cases hk
      exact sim_makeS hop ht hz hi hx hy R hB hd h
    · cases hk
  · rename_i t x lo hi mx hop
    split at hk
    · cases hk
    · rename_i hmx
      have hmx : mx = none := by cases mx <;> simp_all
      subst hmx
      obtain ⟨y, hy, hk⟩ := Option.bind_eq_some_iff.1 hk
      obtain ⟨lo', hlo, hk⟩ := Option.bind_eq_some_iff.1 hk
      obtain ⟨hi', hhi, hk⟩ := Option.bind_eq_some_iff.1 hk
      split at hk
      · rename_i ht
        cases hk; exact sim_slcS hop ht hy hlo hhi R hd h
      · rename_i e ht
        obtain ⟨i, hie, hk⟩ := Option.bind_eq_some_iff.1 hk
        split at hk
        · cases hk
        · rename_i hz
          cases hk; exact sim_slc hop ht hie hz hy hlo hhi R hd h
      · cases hk
  · rename_i t x n hop
    obtain ⟨dt, ht, hk⟩ := Option.bind_eq_some_iff.1 hk
    split at hk
    · rename_i fs
      obtain ⟨fd, hfd, hk⟩ := Option.bind_eq_some_iff.1 hk
      obtain ⟨i, hi, hk⟩ := Option.bind_eq_some_iff.1 hk
      split at hk
      · cases hk
      · rename_i hz
        obtain ⟨y, hy, hk⟩ := Option.bind_eq_some_iff.1 hk; cases hk
        exact sim_fadr hop ht hfd hi hz hy R hd h
    · cases hk
  · rename_i t x n hop
    obtain ⟨dt, ht, hk⟩ := Option.bind_eq_some_iff.1 hk
    split at hk
    · rename_i fs
      obtain ⟨fd, hfd, hk⟩ := Option.bind_eq_some_iff.1 hk
      obtain ⟨⟨m, agg⟩, hi, hk⟩ := Option.bind_eq_some_iff.1 hk
      obtain ⟨y, hy, hk⟩ := Option.bind_eq_some_iff.1 hk; cases hk
      exact sim_fld hop ht hfd hi hy R hd h
    · cases hk
  · rename_i t x ix hop
    obtain ⟨x', hx, hk⟩ := Option.bind_eq_some_iff.1 hk
    obtain ⟨y', hy, hk⟩ := Option.bind_eq_some_iff.1 hk
    split at hk
    · rename_i e ht
      obtain ⟨i, hi, hk⟩ := Option.bind_eq_some_iff.1 hk; cases hk
      exact sim_iadr hop ht hi hx hy R hd h
    · rename_i n e ht
      obtain ⟨i, hi, hk⟩ := Option.bind_eq_some_iff.1 hk; cases hk
      exact sim_iadrA hop ht hi hx hy R hd h
    · cases hk
  · rename_i t x ix hop
    split at hk
    · rename_i ht
      obtain ⟨x', hx, hk⟩ := Option.bind_eq_some_iff.1 hk
      obtain ⟨y', hy, hk⟩ := Option.bind_eq_some_iff.1 hk; cases hk
      exact sim_idx hop ht hx hy R hd h
    · cases hk
  · rename_i x n hop
    obtain ⟨y, hy, hk⟩ := Option.bind_eq_some_iff.1 hk; cases hk
    exact sim_ext hop hy R hd h
  · rename_i c hop
    split at hk
    · obtain ⟨fn, _, hk⟩ := Option.bind_eq_some_iff.1 hk
      split at hk
      · obtain ⟨ys, _, hk⟩ := Option.bind_eq_some_iff.1 hk; cases hk
        simp [stepK] at h
      · cases hk
    · obtain ⟨y, _, hk⟩ := Option.bind_eq_some_iff.1 hk
      obtain ⟨ys, _, hk⟩ := Option.bind_eq_some_iff.1 hk; cases hk
      simp [stepK] at h
    · rename_i b hb
      obtain ⟨t, hat, hk⟩ := Option.bind_eq_some_iff.1 hk
      obtain ⟨d, ht, hk⟩ := Option.bind_eq_some_iff.1 hk
      obtain ⟨xs, hxs, hk⟩ := Option.bind_eq_some_iff.1 hk
      split at hk
      · cases hk
        obtain ⟨x, ha, hx⟩ := cxs_one hxs
        exact sim_lenT hop hb ha hat ht hx R hd h
      · cases hk
        obtain ⟨x, ha, hx⟩ := cxs_one hxs
        exact sim_lenS hop hb ha hat ht hx R hd h
      · cases hk
        obtain ⟨x, y, ha, hx, hy⟩ := cxs_two hxs
        exact sim_mx hop hb ha hx hy R hd h
      · cases hk
        obtain ⟨x, y, ha, hx, hy⟩ := cxs_two hxs
        exact sim_mn hop hb ha hx hy R hd h
      · obtain ⟨t2, hat2, hk⟩ := Option.bind_eq_some_iff.1 hk
        obtain ⟨d2, ht2, hk⟩ := Option.bind_eq_some_iff.1 hk
        split at hk
        · obtain ⟨i, hi, hk⟩ := Option.bind_eq_some_iff.1 hk
          obtain ⟨z, hz, hk⟩ := Option.bind_eq_some_iff.1 hk
          split at hk
          · cases hk
          · rename_i hn
            cases hk
            obtain ⟨x, y, ha, hx, hy⟩ := cxs_two hxs
            exact sim_app hm hop hb ha hat hat2 ht ht2 hi hz (fun e => hn (.inl e)) hx hy R hB hd h
        · cases hk
      · obtain ⟨i, hi, hk⟩ := Option.bind_eq_some_iff.1 hk; cases hk
        obtain ⟨x, y, ha, hx, hy⟩ := cxs_two hxs
        exact sim_cpy hm hop hb ha hat ht hi hx hy R hd h
      · obtain ⟨z, hz, hk⟩ := Option.bind_eq_some_iff.1 hk; cases hk
        obtain ⟨x, ha, hx⟩ := cxs_one hxs
        exact sim_clr hm hop hb ha hat ht hz hx R hd h
      · cases hk
    · cases hk
  · cases hk

end
end Go.Proofs.Ytdplmjlbkaipiaa.Ev
