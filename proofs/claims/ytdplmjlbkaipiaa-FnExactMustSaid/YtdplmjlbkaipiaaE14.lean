/- What the small machine answers, Go answers: operations, regions, code, functions. -/
import Derived.Test.YtdplmjlbkaipiaaE13
import Derived.LoopN
namespace Go.Proofs.Ytdplmjlbkaipiaa.Ev
set_option linter.all false
open Go

/-- A way to call that is right: what it answers, Go answers. -/
def SoundEv (P : Program) (B : Nat) (ev : Evf) : Prop :=
  ∀ m f vs H r H', ev m f vs H = some (r, H') → (∀ id, m.wr id = true → B ≤ id) → B ≤ H.length →
    (∃ fn, P.funcs[f]? = some fn ∧ fn.body.isSome = true ∧ (fn.name == "runtime.NumGoroutine") = false) ∧
    ∀ (J : Inj) (w : World) (cs : Array Value), WRel B J H w → LRel J H vs cs.toList →
      Calls P f cs w fun e w' => ∃ v J', e = .returned v ∧ Tr B w.heap.size J H w J' H' w' ∧ WRel B J' H' w' ∧ VRel J' H' r v

section
variable {P : Program} {B N nt : Nat} {E : Env} {m : Md} {ev : Evf} {hv : Nat → Bool}

theorem notCall_spec {x : Option CK} {k : CK} (h : notCall x = some k) : x = some k ∧ k.isCall = false := by
  unfold notCall at h
  split at h
  · split at h
    · cases h
    · rename_i hc; cases h; exact ⟨rfl, by simpa using hc⟩
  · cases h

theorem callee_isCall {s : St} {k : CK} (h : k.isCall = false) : callee s k = none := by
  cases k <;> first | rfl | (simp [CK.isCall] at h)

/-- What a compiled operation comes from. -/
theorem compK_cases {dst : Option Nat} {o : Oper} {k : CK} (h : compK P hv dst o = some k) :
    (compK0 P hv dst o = some k ∧ k.isCall = false) ∨
    (∃ c f xs fn, o.op = .call c ∧ c.callee = .value (.func f) ∧ cxs c.args.toList = some xs ∧ k = .call f xs ∧ P.funcs[f]? = some fn ∧ fn.body.isSome = true ∧ (fn.name == "runtime.NumGoroutine") = false) ∨
    (∃ c x y xs, o.op = .call c ∧ c.callee = .value x ∧ cx x = some y ∧ cxs c.args.toList = some xs ∧ k = .callV y xs) := by
  unfold compK at h
  split at h
  · rename_i c hop
    split at h
    · rename_i f hc
      unfold compCall at h
      split at h
      · rename_i fn xs h1 h2
        split at h
        · rename_i h3
          cases h
          exact .inr (.inl ⟨c, f, xs, fn, hop, hc, h2, rfl, h1, h3.1, h3.2⟩)
        · cases h
      · cases h
    · rename_i x _ hc
      unfold compCallV at h
      split at h
      · rename_i y xs h1 h2
        cases h
        exact .inr (.inr ⟨c, x, y, xs, hop, hc, h1, h2, rfl⟩)
      · cases h
    · exact .inl (notCall_spec h)
  · exact .inl (notCall_spec h)

theorem run_callFunc {f : FuncId} {fn : Func} {args : Array Value} {w : World} (h1 : P.funcs[f]? = some fn) (h2 : fn.body.isSome = true) (h3 : (fn.name == "runtime.NumGoroutine") = false) : (callFunc f args).run P w = .ok (.enter f args) w := by
  have h4 : fn.body.isNone = false := by cases hb : fn.body <;> simp_all
  simp only [callFunc, Sem.run_bind, run_program, Result.andThen_ok, h1, h3, h4, Bool.false_eq_true, if_false, Sem.run_pure]

theorem drawn_wr {H : Hp} {f : Nat} {vs : List Value} (hm : ∀ id, m.wr id = true → B ≤ id) (hB : B ≤ H.length) : ∀ id, (m.drawn E.pw H f vs).wr id = true → B ≤ id := fun id h => by
  simp only [Md.drawn, Bool.or_eq_true, decide_eq_true_eq, Bool.and_eq_true] at h
  rcases h with h | ⟨⟨_, h⟩, _⟩
  · omega
  · exact hm id h

theorem guard_wanted {J : Inj} {s : St} {a : Act} {w : World} (R : Rel B N nt J s a w) {ops : Array Oper} {o : Oper} {c : CO} {b : Bool} (hg : guardOf ops o = some c.g) (hon : c.on s.ρ = some b) : Region.wanted o (yielded ops a.tmps) = b := by
  unfold guardOf at hg
  unfold Region.wanted
  unfold CO.on at hon
  split at hg
  · rename_i h0
    have hg' : c.g = none := by simpa using hg.symm
    rw [hg'] at hon
    rw [h0]
    simpa using hon
  · rename_i j want h0
    rw [h0]
    split at hg
    · rename_i p hp
      split at hg
      · rename_i t ht
        have hg' : c.g = some (t, want) := by simpa using hg.symm
        rw [hg'] at hon
        dsimp only at hon
        obtain ⟨own, ho⟩ := R.fr
        have hf := ho.ok t
        unfold FOk at hf
        have hy : ∀ v, a.tmps.getD t undef = v → v ≠ undef → a.tmps[t]? = some v := fun v hv hne => by
          rw [Array.getD_eq_getD_getElem?] at hv
          cases hq : a.tmps[t]? with
          | none => rw [hq] at hv; exact absurd hv.symm hne
          | some u => rw [hq] at hv; simp at hv; rw [hv]
        split at hon
        · rename_i cb hρ
          rw [hρ] at hf
          dsimp only at hf
          have h1 := hy _ hf.bool_inv (by simp [undef])
          cases hon
          simp only [yielded, hp, Option.bind_some, ht, h1]
          cases cb <;> cases want <;> rfl
        · rename_i vs hρ
          rw [hρ] at hf
          dsimp only at hf
          cases hon
          generalize hq : a.tmps.getD t undef = q at hf
          cases hf with
          | tup _ ds _ _ =>
            have hne : ∀ b, a.tmps[t]? ≠ some (.bool b) := fun b hb => by
              rw [Array.getD_eq_getD_getElem?, hb] at hq
              simp at hq
            simp only [yielded, hp, Option.bind_some, ht]
            cases hq2 : a.tmps[t]? with
            | none => rfl
            | some u =>
              cases u with
              | bool b => exact absurd hq2 (hne b)
              | _ => rfl
        · cases hon
      · cases hg
    · cases hg

theorem compO_spec {ops : Array Oper} {draw : Bool} {pre : List (List Nat)} {i : Nat} {o : Oper} {c : CO} (h : compO P hv nt ops draw pre i o = some c) :
    compK P hv o.dst o = some c.k ∧ guardOf ops o = some c.g ∧ c.dst = o.dst ∧ c.ix = i ∧ c.pre = (if draw = true then pre.getD i [] else []) ∧ (∀ d, o.dst = some d → d < nt) ∧ (draw = true → ∀ e ∈ o.after, edgeOk e = true → e.on < i) := by
  unfold compO at h
  split at h
  · rename_i k g h1 h2
    split at h
    · rename_i h3
      cases h
      refine ⟨h1, h2, rfl, rfl, rfl, fun d hd => ?_, fun hdr e he hok => ?_⟩
      · have := h3.2
        rw [hd] at this
        simpa [dstOk] using this
      · have := List.all_eq_true.1 (h3.1 hdr) e (by simpa using he)
        simpa [hok] using this
    · cases h
  · cases h

/-- One operation, calls too. -/
theorem stepO_sim {ops : Array Oper} {draw : Bool} {pre : List (List Nat)} {i : Nat} {o : Oper} {c : CO} (hc : compO P hv nt ops draw pre i o = some c) (hev : SoundEv P B ev) (hm : ∀ id, m.wr id = true → B ≤ id)
    {J : Inj} {s s' : St} {a : Act} {w : World} (hB : B ≤ s.H.length) (R : Rel B N nt J s a w) (h : stepO E m draw ev s c = some s') {K : Act → World → Prop} {Q : Exit → Act → World → Prop}
    (hK : ∀ J' a' w', Tr B N J s.H w J' s'.H w' → Rel B N nt J' s' a' w' → K a' w') :
    if Region.wanted o (yielded ops a.tmps) then o.wp P a w K Q else K (a.put o.dst undef) w := by
  obtain ⟨c1, c2, c3, c4, c5, c6, c7⟩ := compO_spec hc
  unfold stepO at h
  split at h
  · rename_i hon
    rw [guard_wanted R c2 hon]
    simp only [if_true]
    split at h
    · rename_i f s1 hs
      cases h
      rw [c3] at hK
      unfold stepC at hs
      rcases compK_cases c1 with ⟨k1, k2⟩ | ⟨cl, g, xs, fn, hop, hcal, hxs, hk, hfn, hbd, hnm⟩ | ⟨cl, x, y, xs, hop, hcal, hx, hxs, hk⟩
      · rw [callee_isCall k2] at hs
        obtain ⟨res, v, w', J', r1, r2, r3, r4⟩ := simK hm k1 R hB c6 hs
        unfold Oper.wp
        rw [r1]
        rcases r2 with rfl | ⟨rfl, rfl⟩
        · exact hK J' _ _ r3 r4
        · exact hK J' _ _ r3 r4
      · rw [hk] at hs
        cases hcs : callee s (.call g xs) with
        | none => rw [hcs] at hs; simp [stepK] at hs
        | some p =>
          obtain ⟨g', vs⟩ := p
          have hcs' := hcs
          simp only [callee] at hcs
          split at hcs
          · rename_i vs' hvs
            cases hcs
            rw [hcs'] at hs
            dsimp only at hs
            cases hq : ev (if draw = true then m.drawn E.pw s.H g vs else m) g vs s.H with
            | none => rw [hq] at hs; cases hs
            | some q =>
              obtain ⟨r, H⟩ := q
              rw [hq] at hs
              cases hs
              obtain ⟨_, hcall⟩ := hev _ _ _ _ _ _ hq (by cases draw with | false => exact hm | true => exact drawn_wr hm hB) hB
              have hargs := opxs R hxs hvs
              unfold Oper.wp
              have hrun : (execOp a.eval o).run P w = .ok (.enter g (cl.args.map a.eval)) w := by
                simp only [execOp, hop, resolve, hcal, Sem.run_bind, Act.eval, Deferred.ofValue, Sem.run_pure, Result.andThen_ok, invoke]
                rw [run_callFunc hfn hbd hnm]
                simp
              rw [hrun, Oper.upon_enter]
              refine (hcall J w (cl.args.map a.eval) R.wr (by simpa using hargs)).mono fun e w' ⟨v, J', he, t1, t2, t3⟩ => ?_
              subst he
              have R1 := R.move t1 t2
              exact hK J' _ _ (t1.mono R.hN) (R1.put_val (s := { s with H := H }) c6 t3)
          · cases hcs
      · rw [hk] at hs
        cases hcs : callee s (.callV y xs) with
        | none => rw [hcs] at hs; simp [stepK] at hs
        | some p =>
          obtain ⟨g', vs⟩ := p
          have hcs' := hcs
          simp only [callee] at hcs
          split at hcs
          · rename_i g first caps vs' hvx hvs
            split at hcs
            · rename_i hfz
              cases hcs
              rw [hcs'] at hs
              dsimp only at hs
              cases hq : ev (if draw = true then m.drawn E.pw s.H g' (vs' ++ caps.toList) else m) g' (vs' ++ caps.toList) s.H with
              | none => rw [hq] at hs; cases hs
              | some q =>
                obtain ⟨r, H⟩ := q
                rw [hq] at hs
                cases hs
                obtain ⟨⟨fn, hfn, hbd, hnm⟩, hcall⟩ := hev _ _ _ _ _ _ hq (by cases draw with | false => exact hm | true => exact drawn_wr hm hB) hB
                have hargs := opxs R hxs hvs
                have hr := opx R hx hvx
                generalize hv1 : a.eval x = cv at hr
                cases hr with
                | fn _ _ ds hsz hh =>
                  unfold Oper.wp
                  have hrun : (execOp a.eval o).run P w = .ok (.enter g' (cl.args.map a.eval ++ ds)) w := by
                    simp only [execOp, hop, resolve, hcal, Sem.run_bind, hv1, Deferred.ofValue, Sem.run_pure, Result.andThen_ok, invoke]
                    rw [run_callFunc hfn hbd hnm]
                    simp
                  rw [hrun, Oper.upon_enter]
                  have hl : LRel J s.H (vs' ++ caps.toList) (cl.args.map a.eval ++ ds).toList := by
                    rw [Array.toList_append]
                    refine LRel.append (by simpa using hargs) ⟨by simpa using hsz, fun i x y hx hy => hh i x y (by simpa using hx) (by simpa using hy)⟩
                  refine (hcall J w _ R.wr hl).mono fun e w' ⟨v, J', he, t1, t2, t3⟩ => ?_
                  subst he
                  have R1 := R.move t1 t2
                  exact hK J' _ _ (t1.mono R.hN) (R1.put_val (s := { s with H := H }) c6 t3)
            · cases hcs
          · cases hcs
    · cases h
  · rename_i hon
    rw [guard_wanted R c2 hon]
    cases h
    rw [c3] at hK
    exact hK J _ _ (.refl _ _ _ _ _) (R.put_val c6 (.tup #[] #[] rfl fun i x y hx => by simp at hx))
  · cases h

theorem compOs_get {ops : Array Oper} {draw : Bool} {pre : List (List Nat)} : ∀ {os : List Oper} {i : Nat} {cs : List CO}, compOs P hv nt ops draw pre i os = some cs → cs.length = os.length ∧
    ∀ (j : Nat) (o : Oper), os[j]? = some o → ∃ c, cs[j]? = some c ∧ compO P hv nt ops draw pre (i + j) o = some c
  | [], i, cs, h => by simp only [compOs] at h; cases h; exact ⟨rfl, fun j o ho => by simp at ho⟩
  | o :: os, i, cs, h => by
    simp only [compOs] at h
    split at h
    · rename_i c cs' h1 h2
      cases h
      obtain ⟨k1, k2⟩ := compOs_get h2
      refine ⟨by simp [k1], fun j o' ho => ?_⟩
      cases j with
      | zero => simp at ho; subst ho; exact ⟨c, rfl, h1⟩
      | succ j =>
        obtain ⟨c', g1, g2⟩ := k2 j o' (by simpa using ho)
        exact ⟨c', by simpa using g1, by rw [show i + (j + 1) = i + 1 + j by omega]; exact g2⟩
    · cases h

/-- A region in its own order. -/
theorem region_sim {ops : Array Oper} {pre : List (List Nat)} {Q : Exit → Act → World → Prop} {cs : List CO} (hcs : compOs P hv nt ops false pre 0 ops.toList = some cs) (hev : SoundEv P B ev) (hkp : EvKp ev) (hm : ∀ id, m.wr id = true → B ≤ id) :
    ∀ (n j : Nat) {J : Inj} {s t : St} {a : Act} {w : World}, j + n = ops.size → B ≤ s.H.length → Rel B N nt J s a w → runR E m false ev (cs.drop j) s = some t → (∀ J' a' w', Tr B N J s.H w J' t.H w' → Rel B N nt J' t a' w' → Q .normal a' w') →
      wpOps P ops Q (List.range' j n) a w := by
  obtain ⟨l1, l2⟩ := compOs_get hcs
  intro n
  induction n with
  | zero =>
    intro j J s t a w hj hB R h hQ
    rw [List.drop_eq_nil_of_le (by simp at l1; omega)] at h
    simp only [runR] at h; cases h
    simp only [List.range', wpOps]
    exact hQ J a w (.refl _ _ _ _ _) R
  | succ n ih =>
    intro j J s t a w hj hB R h hQ
    have hjlt : j < ops.size := by omega
    have ho : ops[j]? = some ops[j] := Array.getElem?_eq_getElem hjlt
    obtain ⟨c, hc1, hc2⟩ := l2 j ops[j] (by simpa using ho)
    rw [Nat.zero_add] at hc2
    have hd : cs.drop j = c :: cs.drop (j + 1) := by
      have := List.getElem?_eq_some_iff.1 hc1
      obtain ⟨hlt, he⟩ := this
      rw [List.drop_eq_getElem_cons hlt, he]
    rw [hd] at h
    obtain ⟨s1, h1, h2⟩ := runR_cons (s' := s) h
    rw [List.range'_succ]
    simp only [wpOps, ho]
    have := stepO_sim hc2 hev hm hB R h1 (K := wpOps P ops Q (List.range' (j + 1) n)) (Q := Q) fun J' a' w' t1 R1 => ih (j + 1) (by omega) (Nat.le_trans hB (stepO_kp hkp h1).len) R1 h2 fun J'' a'' w'' t2 R2 => hQ J'' a'' w'' (t1.trans t2) R2
    split
    · rename_i hw; rw [if_pos hw] at this; exact .inl this
    · rename_i hw; rw [if_neg hw] at this; exact this

end
end Go.Proofs.Ytdplmjlbkaipiaa.Ev
