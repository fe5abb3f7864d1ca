/- What the small machine does, step by step: conditions that lead to an answer. -/
import Derived.Test.YtdplmjlbkaipiaaE16
namespace Go.Proofs.Ytdplmjlbkaipiaa.Ev
set_option linter.all false
open Go

def Fun (E : Env) (m : Md) (f : Nat) (vs : List Value) (H : Hp) (Q : Value → Hp → Prop) : Prop :=
  ∃ k r H', evF E k m f vs H = some (r, H') ∧ Q r H'

def Run (E : Env) (m : Md) (c : CC) (s : St) (Q : Ex → St → Prop) : Prop :=
  ∃ k e s', evC E k m c s = some (e, s') ∧ Q e s'

def opt {α : Type} (x : Option α) (Q : α → Prop) : Prop :=
  match x with
  | some a => Q a
  | none => False

def wpK (E : Env) (m : Md) (draw : Bool) (s : St) (k : CK) (Q : FV → St → Prop) : Prop :=
  match k with
  | .call f args => opt (exvs s.ρ args) fun vs => Fun E (if draw then m.drawn E.pw s.H f vs else m) f vs s.H fun r H => Q (.val r) { s with H := H }
  | .callV x args =>
    match exv s.ρ x with
    | some (.func (.func f) first caps) => opt (exvs s.ρ args) fun vs => first.size = 0 ∧ Fun E (if draw then m.drawn E.pw s.H f (vs ++ caps.toList) else m) f (vs ++ caps.toList) s.H fun r H => Q (.val r) { s with H := H }
    | _ => False
  | k => opt (stepK m s k) fun p => Q p.1 p.2

/-- Both ways, of which the simplifier goes into neither. -/
def Br (c : Bool) (P Q : Prop) : Prop := (c = true → P) ∧ (c = false → Q)

def wpO (E : Env) (m : Md) (draw : Bool) (s : St) (o : CO) (Q : St → Prop) : Prop :=
  match o.g with
  | none => wpK E m draw s o.k fun v s' => Q { s' with ρ := upd s'.ρ o.dst v }
  | some (t, b) =>
    match s.ρ t with
    | .val (.bool c) => Br (c == b) (wpK E m draw s o.k fun v s' => Q { s' with ρ := upd s'.ρ o.dst v }) (Q { s with ρ := upd s.ρ o.dst (.val (.tuple #[])) })
    | .val (.tuple _) => Q { s with ρ := upd s.ρ o.dst (.val (.tuple #[])) }
    | _ => False

theorem wpO_on {E : Env} {m : Md} {draw : Bool} {s : St} {o : CO} {Q : St → Prop} (h : wpO E m draw s o Q) :
    match o.on s.ρ with
    | some true => wpK E m draw s o.k fun v s' => Q { s' with ρ := upd s'.ρ o.dst v }
    | some false => Q { s with ρ := upd s.ρ o.dst (.val (.tuple #[])) }
    | none => False := by
  unfold wpO at h
  unfold CO.on
  split at h
  · rename_i hg
    rw [hg]
    exact h
  · rename_i t b hg
    rw [hg]
    simp only
    split at h
    · rename_i c hc
      rw [hc]
      simp only
      cases hcb : c == b with
      | true => exact h.1 hcb
      | false => exact h.2 hcb
    · rename_i c hc
      rw [hc]
      exact h
    · exact h.elim

def wpR (E : Env) (m : Md) : List CO → St → (St → Prop) → Prop
  | [], s, Q => Q s
  | o :: os, s, Q => wpO E m false s o fun s' => wpR E m os s' Q

def wpD (E : Env) (m : Md) : List CO → St → List (CO × Inf) → (St → Prop) → Prop
  | [], s, acc, Q => allApart acc.reverse = true ∧ Q s
  | o :: os, s, acc, Q => wpO E m true s o fun s' => wpD E m os s' ((o, infO E.pw s o) :: acc) Q

def wpC (E : Env) (m : Md) : CC → St → (Ex → St → Prop) → Prop
  | .skip, s, Q => Q .normal s
  | .exit id, s, Q => Q (.exit id) s
  | .ret, s, Q => Q .ret s
  | .reg false ops, s, Q => wpR E m ops s (Q .normal)
  | .reg true ops, s, Q => wpD E m ops s [] (Q .normal)
  | .seq a b, s, Q => wpC E m a s fun e s' =>
    match e with
    | .normal => wpC E m b s' Q
    | .exit j => Q (.exit j) s'
    | .ret => Q .ret s'
  | .cond c a b, s, Q =>
    match exv s.ρ c with
    | some (.bool t) => Br t (wpC E m a s Q) (wpC E m b s Q)
    | _ => False
  | .block id c, s, Q => wpC E m c s fun e s' =>
    match e with
    | .normal => Q .normal s'
    | .exit j => if j = id then Q .normal s' else Q (.exit j) s'
    | .ret => Q .ret s'
  | .loop c, s, Q => Run E m (.loop c) s Q

section
variable {E : Env} {m : Md}

theorem Fun.mono {f : Nat} {vs : List Value} {H : Hp} {Q Q' : Value → Hp → Prop} (h : Fun E m f vs H Q) (hq : ∀ r H', Q r H' → Q' r H') : Fun E m f vs H Q' := by
  obtain ⟨k, r, H', h1, h2⟩ := h
  exact ⟨k, r, H', h1, hq _ _ h2⟩

theorem Run.mono {c : CC} {s : St} {Q Q' : Ex → St → Prop} (h : Run E m c s Q) (hq : ∀ e s', Q e s' → Q' e s') : Run E m c s Q' := by
  obtain ⟨k, r, H', h1, h2⟩ := h
  exact ⟨k, r, H', h1, hq _ _ h2⟩

/-- One operation, with fuel to spare. -/
theorem wpO_ok {draw : Bool} {s : St} {o : CO} {Q : St → Prop} (h : wpO E m draw s o Q) : ∃ k s', (∀ d, stepO E m draw (evF E (k + d)) s o = some s') ∧ Q s' := by
  have h := wpO_on h
  unfold stepO
  split at h
  · rename_i ho
    have key : ∀ {f : Nat} {vs : List Value}, callee s o.k = some (f, vs) → Fun E (if draw then m.drawn E.pw s.H f vs else m) f vs s.H (fun r H => Q { s with H := H, ρ := upd s.ρ o.dst (.val r) }) →
        ∃ k s', (∀ d, (match some true with
          | some true => match stepC E m draw (evF E (k + d)) s o.k with
            | some (v, s') => some { s' with ρ := upd s'.ρ o.dst v }
            | none => none
          | some false => some { s with ρ := upd s.ρ o.dst (.val (.tuple #[])) }
          | none => none) = some s') ∧ Q s' := fun {f vs} hc hf => by
      obtain ⟨k, r, H', h1, h2⟩ := hf
      refine ⟨k, _, fun d => ?_, h2⟩
      unfold stepC
      rw [hc]
      simp only
      rw [evF_mono d h1]
    rw [ho]
    revert key h
    cases hk : o.k with
    | call f args =>
      intro h key
      simp only [wpK] at h
      cases ha : exvs s.ρ args with
      | none => rw [ha] at h; exact h.elim
      | some vs => rw [ha] at h; exact key (by simp only [callee, ha]) h
    | callV x args =>
      intro h key
      simp only [wpK] at h
      split at h
      · rename_i f first caps hx
        cases ha : exvs s.ρ args with
        | none => rw [ha] at h; exact h.elim
        | some vs => rw [ha] at h; exact key (by simp only [callee, ha, hx]; rw [if_pos h.1]) h.2
      · exact h.elim
    | _ =>
      intro h key
      simp only [wpK] at h
      unfold opt at h
      split at h
      · rename_i p hp
        refine ⟨0, _, fun d => ?_, h⟩
        unfold stepC
        simp only [callee]
        rw [hp]
      · exact h.elim
  · rename_i ho
    rw [ho]
    exact ⟨0, _, fun d => rfl, h⟩
  · exact h.elim

theorem wpR_ok : ∀ {os : List CO} {s : St} {Q : St → Prop}, wpR E m os s Q → ∃ k s', (∀ d, runR E m false (evF E (k + d)) os s = some s') ∧ Q s'
  | [], s, Q, h => ⟨0, s, fun d => rfl, h⟩
  | o :: os, s, Q, h => by
    simp only [wpR] at h
    obtain ⟨k1, s1, h1, h2⟩ := wpO_ok h
    obtain ⟨k2, s2, h3, h4⟩ := wpR_ok h2
    refine ⟨k1 + k2, s2, fun d => ?_, h4⟩
    unfold runR
    rw [Nat.add_assoc, h1 (k2 + d)]
    simp only
    have := h3 (k1 + d)
    rw [show k1 + (k2 + d) = k2 + (k1 + d) by omega]
    exact this

theorem wpD_ok : ∀ {os : List CO} {s : St} {acc : List (CO × Inf)} {Q : St → Prop}, wpD E m os s acc Q → ∃ k s' l, (∀ d, runR E m true (evF E (k + d)) os s = some s' ∧ infR E m (evF E (k + d)) os s = l) ∧ allApart (acc.reverse ++ l) = true ∧ Q s'
  | [], s, acc, Q, h => ⟨0, s, [], fun d => ⟨rfl, rfl⟩, by simpa using h.1, h.2⟩
  | o :: os, s, acc, Q, h => by
    simp only [wpD] at h
    obtain ⟨k1, s1, h1, h2⟩ := wpO_ok h
    obtain ⟨k2, s2, l, h3, h4, h5⟩ := wpD_ok h2
    refine ⟨k1 + k2, s2, (o, infO E.pw s o) :: l, fun d => ?_, by simpa using h4, h5⟩
    have := h3 (k1 + d)
    rw [show k2 + (k1 + d) = k1 + k2 + d by omega] at this
    have h1' := h1 (k2 + d)
    rw [← Nat.add_assoc] at h1'
    unfold runR infR
    rw [h1']
    exact ⟨this.1, by simp only [this.2]⟩

theorem wpC_ok : ∀ {c : CC} {s : St} {Q : Ex → St → Prop}, wpC E m c s Q → Run E m c s Q
  | .skip, s, Q, h => ⟨1, _, _, rfl, h⟩
  | .exit id, s, Q, h => ⟨1, _, _, rfl, h⟩
  | .ret, s, Q, h => ⟨1, _, _, rfl, h⟩
  | .reg false ops, s, Q, h => by
    simp only [wpC] at h
    obtain ⟨k, s', h1, h2⟩ := wpR_ok h
    have h1 := h1 0
    refine ⟨k + 1, .normal, s', ?_, h2⟩
    rw [evC]
    simp only [Bool.false_eq_true, false_and, if_false]
    rw [Nat.add_zero] at h1
    rw [h1]
  | .reg true ops, s, Q, h => by
    simp only [wpC] at h
    obtain ⟨k, s', l, h1, h2, h3⟩ := wpD_ok h
    have h1 := h1 0
    rw [Nat.add_zero] at h1
    refine ⟨k + 1, .normal, s', ?_, h3⟩
    rw [evC, h1.2, h1.1]
    simp only [List.reverse_nil, List.nil_append] at h2
    simp [h2]
  | .seq a b, s, Q, h => by
    simp only [wpC] at h
    obtain ⟨k, e, s', h1, h2⟩ := wpC_ok h
    cases e with
    | normal =>
      obtain ⟨k2, e2, s2, h3, h4⟩ := wpC_ok h2
      refine ⟨k + k2 + 1, e2, s2, ?_, h4⟩
      rw [evC, evC_mono k2 h1]
      simp only
      rw [Nat.add_comm k k2]
      exact evC_mono k h3
    | exit j => exact ⟨k + 1, _, _, by rw [evC, h1], h2⟩
    | ret => exact ⟨k + 1, _, _, by rw [evC, h1], h2⟩
  | .cond c a b, s, Q, h => by
    simp only [wpC] at h
    split at h
    · rename_i t ht
      cases t with
      | true =>
        obtain ⟨k, e, s', h1, h2⟩ := wpC_ok (h.1 rfl)
        exact ⟨k + 1, e, s', by rw [evC, ht]; exact h1, h2⟩
      | false =>
        obtain ⟨k, e, s', h1, h2⟩ := wpC_ok (h.2 rfl)
        exact ⟨k + 1, e, s', by rw [evC, ht]; exact h1, h2⟩
    · exact h.elim
  | .block id c, s, Q, h => by
    simp only [wpC] at h
    obtain ⟨k, e, s', h1, h2⟩ := wpC_ok h
    cases e with
    | normal => exact ⟨k + 1, _, _, by rw [evC, h1], h2⟩
    | exit j =>
      by_cases hj : j = id
      · exact ⟨k + 1, .normal, s', by rw [evC, h1]; simp only [if_pos hj], by simpa only [if_pos hj] using h2⟩
      · exact ⟨k + 1, .exit j, s', by rw [evC, h1]; simp only [if_neg hj], by simpa only [if_neg hj] using h2⟩
    | ret => exact ⟨k + 1, _, _, by rw [evC, h1], h2⟩
  | .loop c, s, Q, h => h

/-- A loop that comes down. -/
theorem loop_ok {c : CC} {Q : Ex → St → Prop} (I : Nat → St → Prop) (step : ∀ n s, I n s → wpC E m c s fun e s' => match e with
    | .normal => ∃ n' < n, I n' s'
    | .exit j => Q (.exit j) s'
    | .ret => Q .ret s') : ∀ n s, I n s → Run E m (.loop c) s Q := by
  intro n
  induction n using Nat.strongRecOn with
  | _ n ih =>
    intro s h
    obtain ⟨k, e, s', h1, h2⟩ := wpC_ok (step n s h)
    cases e with
    | normal =>
      obtain ⟨n', hn, hi⟩ := h2
      obtain ⟨k2, e2, s2, h3, h4⟩ := ih n' hn s' hi
      refine ⟨k + k2 + 1, e2, s2, ?_, h4⟩
      rw [evC, evC_mono k2 h1]
      simp only
      rw [Nat.add_comm k k2]
      exact evC_mono k h3
    | exit j => exact ⟨k + 1, _, _, by rw [evC, h1], h2⟩
    | ret => exact ⟨k + 1, _, _, by rw [evC, h1], h2⟩

/-- A part whose outcome is told by itself. -/
theorem wpC_run {c : CC} {s : St} {Q : Ex → St → Prop} (h : Run E m c s Q) : Run E m c s Q := h

/-- What a function's end is. -/
def FunPost (E : Env) (f : Nat) (res : List RV) (H : Hp) (Q : Value → Hp → Prop) (e : Ex) (s : St) : Prop :=
  match e with
  | .exit _ => False
  | _ => opt (resT s res) fun v => if E.tr f = true then flatScal v = true ∧ Q v (s.H.take H.length) else Q v s.H

theorem Fun.intro {f : Nat} {cf : CF} {vs : List Value} {H : Hp} {Q : Value → Hp → Prop} (hp : E.prim f = none) (hf : E.fns f = some cf) (hl : vs.length ≤ cf.nt)
    (h : Run E { m with nr := m.nr || E.tr f } cf.body { ρ := ini vs, gn := 0, H := H } (FunPost E f cf.res H Q)) : Fun E m f vs H Q := by
  obtain ⟨k, e, s', h1, h2⟩ := h
  have fin : e ≠ .exit 0 ∨ True := .inr trivial
  have main : opt (resT s' cf.res) (fun v => if E.tr f = true then flatScal v = true ∧ Q v (s'.H.take H.length) else Q v s'.H) → (match resT s' cf.res with
      | some v => if E.tr f then (if flatScal v then some (v, s'.H.take H.length) else none) else some (v, s'.H)
      | none => none) = evF E (k + 1) m f vs H → Fun E m f vs H Q := fun h2 h3 => by
    unfold opt at h2
    cases hr : resT s' cf.res with
    | none => rw [hr] at h2; exact h2.elim
    | some v =>
      rw [hr] at h2 h3
      simp only at h2 h3
      by_cases ht : E.tr f = true
      · rw [if_pos ht] at h2 h3
        rw [if_pos h2.1] at h3
        exact ⟨k + 1, _, _, h3.symm, h2.2⟩
      · rw [if_neg ht] at h2 h3
        exact ⟨k + 1, _, _, h3.symm, h2⟩
  cases e with
  | exit j => exact h2.elim
  | normal => exact main h2 (by rw [evF, hp]; simp only [hf, if_pos hl, h1]; cases resT s' cf.res <;> rfl)
  | ret => exact main h2 (by rw [evF, hp]; simp only [hf, if_pos hl, h1]; cases resT s' cf.res <;> rfl)

end
end Go.Proofs.Ytdplmjlbkaipiaa.Ev
