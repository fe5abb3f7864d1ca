/- Code as a row of tasks: each step leaves a row of tasks behind, so that plain rewriting walks it. -/
import Derived.Test.YtdplmjlbkaipiaaE18
namespace Go.Proofs.Ytdplmjlbkaipiaa.Ev
set_option linter.all false
open Go

inductive Tk where
  | c (c : CC)
  | o (draw : Bool) (o : CO)
  | r (os : List CO)
  | d (ops os : List CO) (acc : List (List Nat × Bool))
  | blk (id : Nat)

section
variable (E : Env) (m : Md)

mutual
def go : List Tk → St → (Ex → St → Prop) → Prop
  | [], s, Q => Q .normal s
  | .c c :: ts, s, Q => wpC E m c s fun e s' => thr e ts s' Q
  | .o draw o :: ts, s, Q => wpO E m draw s o fun s' => go ts s' Q
  | .r os :: ts, s, Q => wpR E m os s fun s' => go ts s' Q
  | .d ops os acc :: ts, s, Q => wpD3 E m ops os s acc fun s' => go ts s' Q
  | .blk _ :: ts, s, Q => go ts s Q
termination_by ts => (ts.length, 1)
def thr : Ex → List Tk → St → (Ex → St → Prop) → Prop
  | .normal, ts, s, Q => go ts s Q
  | .ret, _, s, Q => Q .ret s
  | .exit j, [], s, Q => Q (.exit j) s
  | .exit j, .blk i :: ts, s, Q => if j = i then go ts s Q else thr (.exit j) ts s Q
  | .exit j, _ :: ts, s, Q => thr (.exit j) ts s Q
termination_by _ ts => (ts.length, 2)
end

/-- What an operation left, and the tasks from there. -/
def aft (r : Option (FV × St)) (dst : Option Nat) (ts : List Tk) (Q : Ex → St → Prop) : Prop :=
  match r with
  | some (v, s') => go E m ts { s' with ρ := upd s'.ρ dst v } Q
  | none => False

/-- A call, and the tasks behind it. -/
def callT (draw : Bool) (f : Nat) (vs : Option (List Value)) (s : St) (dst : Option Nat) (ts : List Tk) (Q : Ex → St → Prop) : Prop :=
  opt vs fun vs => Fun E (if draw then m.drawn E.pw s.H f vs else m) f vs s.H fun r H => go E m ts { s with H := H, ρ := upd s.ρ dst (.val r) } Q

def callVT (draw : Bool) (fv : Option Value) (vs : Option (List Value)) (s : St) (dst : Option Nat) (ts : List Tk) (Q : Ex → St → Prop) : Prop :=
  match fv with
  | some (.func (.func f) first caps) => if first.size = 0 then callT E m draw f (match vs with | some vs => some (vs ++ caps.toList) | none => none) s dst ts Q else False
  | _ => False

def stp (draw : Bool) (s : St) (k : CK) (dst : Option Nat) (ts : List Tk) (Q : Ex → St → Prop) : Prop :=
  match k with
  | .call f args => callT E m draw f (exvs s.ρ args) s dst ts Q
  | .callV x args => callVT E m draw (exv s.ρ x) (exvs s.ρ args) s dst ts Q
  | k => aft E m (stepK m s k) dst ts Q

/-- Two ways. -/
def brT (c : Bool) (t1 : List Tk) (s1 : St) (t2 : List Tk) (s2 : St) (Q : Ex → St → Prop) : Prop :=
  (c = true → go E m t1 s1 Q) ∧ (c = false → go E m t2 s2 Q)

def grd (fv : FV) (b : Bool) (t1 : List Tk) (s : St) (t2 : List Tk) (s2 : St) (Q : Ex → St → Prop) : Prop :=
  match fv with
  | .val (.bool c) => brT E m (c == b) t1 s t2 s2 Q
  | .val (.tuple _) => go E m t2 s2 Q
  | _ => False

def cnd (v : Option Value) (t1 t2 : List Tk) (s : St) (Q : Ex → St → Prop) : Prop :=
  match v with
  | some (.bool c) => brT E m c t1 s t2 s Q
  | _ => False

section
variable {E m} {s s1 s2 : St} {Q : Ex → St → Prop} {ts t1 t2 : List Tk}

theorem go_nil : go E m [] s Q = Q .normal s := by rw [go]
theorem go_blk (i : Nat) : go E m (.blk i :: ts) s Q = go E m ts s Q := by rw [go]
theorem go_skip : go E m (.c .skip :: ts) s Q = go E m ts s Q := by rw [go, wpC, thr]
theorem go_ret : go E m (.c .ret :: ts) s Q = Q .ret s := by rw [go, wpC, thr]
theorem go_exit (j : Nat) : go E m (.c (.exit j) :: ts) s Q = thr E m (.exit j) ts s Q := by rw [go, wpC]
theorem go_seq (a b : CC) : go E m (.c (.seq a b) :: ts) s Q = go E m (.c a :: .c b :: ts) s Q := by
  rw [go, wpC, go]
  congr 1
  funext e s'
  cases e with
  | normal => simp only [thr, go]
  | exit j => simp only [thr]
  | ret => simp only [thr]
theorem go_block (i : Nat) (c : CC) : go E m (.c (.block i c) :: ts) s Q = go E m (.c c :: .blk i :: ts) s Q := by
  rw [go, wpC, go]
  congr 1
  funext e s'
  cases e with
  | normal => simp only [thr, go]
  | exit j => simp only [thr]
  | ret => simp only [thr]
theorem go_reg (os : List CO) : go E m (.c (.reg false os) :: ts) s Q = go E m (.r os :: ts) s Q := by
  simp only [go, wpC, thr]
theorem go_r0 : go E m (.r [] :: ts) s Q = go E m ts s Q := by simp only [go, wpR]
theorem go_r (o : CO) (os : List CO) : go E m (.r (o :: os) :: ts) s Q = go E m (.o false o :: .r os :: ts) s Q := by simp only [go, wpR]
theorem go_d0 (ops : List CO) (acc : List (List Nat × Bool)) : go E m (.d ops [] acc :: ts) s Q = (chk ops acc.reverse = true ∧ go E m ts s Q) := by simp only [go, wpD3]
theorem go_d (ops os : List CO) (o : CO) (acc : List (List Nat × Bool)) : go E m (.d ops (o :: os) acc :: ts) s Q = go E m (.o true o :: .d ops os (boxOf s.ρ o :: acc) :: ts) s Q := by simp only [go, wpD3]
theorem go_cond (x : X) (a b : CC) : go E m (.c (.cond x a b) :: ts) s Q = cnd E m (exv s.ρ x) (.c a :: ts) (.c b :: ts) s Q := by
  simp only [go, wpC, cnd]
  generalize exv s.ρ x = v
  rcases v with _ | v
  · rfl
  · cases v <;> simp only [Br, brT, go]

theorem stp_wpK {draw : Bool} {k : CK} {dst : Option Nat} : (wpK E m draw s k fun v s' => go E m ts { s' with ρ := upd s'.ρ dst v } Q) = stp E m draw s k dst ts Q := by
  cases k with
  | call f args => simp only [wpK, stp, callT]
  | callV x args =>
    simp only [wpK, stp, callVT]
    generalize exv s.ρ x = v
    rcases v with _ | v
    · rfl
    · cases v with
      | func fn first caps =>
        cases fn with
        | func f =>
          simp only
          cases exvs s.ρ args with
          | none => simp [callT, opt]
          | some vs =>
            simp only [callT, opt]
            by_cases h0 : first.size = 0
            · simp [h0]
            · simp [h0]
        | _ => rfl
      | _ => rfl
  | _ =>
    simp only [wpK, stp, aft, opt]
    split <;> simp_all

theorem go_o (draw : Bool) (d : Option Nat) (k : CK) (i : Nat) (p : List Nat) : go E m (.o draw ⟨d, none, k, i, p⟩ :: ts) s Q = stp E m draw s k d ts Q := by
  rw [← stp_wpK]
  simp only [go, wpO]
theorem go_g (draw : Bool) (d : Option Nat) (t : Nat) (b : Bool) (k : CK) (i : Nat) (p : List Nat) : go E m (.o draw ⟨d, some (t, b), k, i, p⟩ :: ts) s Q =
    grd E m (s.ρ t) b (.o draw ⟨d, none, k, i, p⟩ :: ts) s ts { s with ρ := upd s.ρ d (.val (.tuple #[])) } Q := by
  simp only [go, wpO, grd]
  generalize s.ρ t = v
  cases v with
  | val v => cases v <;> simp only [Br, brT, go, wpO]
  | _ => rfl

theorem aft_some (v : FV) (d : Option Nat) : aft E m (some (v, s1)) d ts Q = go E m ts { s1 with ρ := upd s1.ρ d v } Q := rfl
theorem cnd_bool (c : Bool) : cnd E m (some (.bool c)) t1 t2 s Q = brT E m c t1 s t2 s Q := rfl
theorem grd_bool (c b : Bool) : grd E m (.val (.bool c)) b t1 s t2 s2 Q = brT E m (c == b) t1 s t2 s2 Q := rfl
theorem grd_tup (c : Array Value) (b : Bool) : grd E m (.val (.tuple c)) b t1 s t2 s2 Q = go E m t2 s2 Q := rfl
theorem brT_true : brT E m true t1 s1 t2 s2 Q = go E m t1 s1 Q := by simp [brT]
theorem brT_false : brT E m false t1 s1 t2 s2 Q = go E m t2 s2 Q := by simp [brT]
theorem brT_not (c : Bool) : brT E m (!c) t1 s1 t2 s2 Q = brT E m c t2 s2 t1 s1 Q := by cases c <;> simp [brT]
theorem brT.intro {c : Bool} (h1 : c = true → go E m t1 s1 Q) (h2 : c = false → go E m t2 s2 Q) : brT E m c t1 s1 t2 s2 Q := ⟨h1, h2⟩
theorem thr_exit (j i : Nat) : thr E m (.exit j) (.blk i :: ts) s Q = if j = i then go E m ts s Q else thr E m (.exit j) ts s Q := by simp only [thr]
theorem thr_c (j : Nat) (c : CC) : thr E m (.exit j) (.c c :: ts) s Q = thr E m (.exit j) ts s Q := by simp only [thr]
theorem thr_nil (j : Nat) : thr E m (.exit j) [] s Q = Q (.exit j) s := by simp only [thr]

theorem go_run {c : CC} (h : go E m [.c c] s Q) : Run E m c s Q := by
  rw [go] at h
  refine (wpC_ok h).mono fun e s' h => ?_
  cases e with
  | normal => rw [thr, go] at h; exact h
  | exit j => rw [thr] at h; exact h
  | ret => rw [thr] at h; exact h

theorem wpR_mono : ∀ {os : List CO} {s : St} {P P' : St → Prop}, wpR E m os s P → (∀ s', P s' → P' s') → wpR E m os s P'
  | [], _, _, _, h, hq => hq _ h
  | _ :: _, _, _, _, h, hq => wpO_mono h fun _ h' => wpR_mono h' hq

theorem wpD_mono : ∀ {os : List CO} {s : St} {acc : List (CO × Inf)} {P P' : St → Prop}, wpD E m os s acc P → (∀ s', P s' → P' s') → wpD E m os s acc P'
  | [], _, _, _, _, h, hq => ⟨h.1, hq _ h.2⟩
  | _ :: _, _, _, _, _, h, hq => wpO_mono h fun _ h' => wpD_mono h' hq

/-- A region with an open order, in which no call or writing stands in the open. -/
theorem go_draw {os : List CO} (h : go E m (.d os os [] :: ts) s Q) : go E m (.c (.reg true os) :: ts) s Q := by
  simp only [go, wpC, thr] at h ⊢
  exact wpD_easy h

/-- Cut: what code does is told by itself. -/
theorem go_cut {c : CC} {P : Ex → St → Prop} (h : Run E m c s P) (hq : ∀ e s', P e s' → thr E m e ts s' Q) (hl : ∃ b, c = .loop b) : go E m (.c c :: ts) s Q := by
  obtain ⟨b, rfl⟩ := hl
  rw [go, wpC]
  exact h.mono hq

theorem wpC_mono : ∀ {c : CC} {s : St} {P P' : Ex → St → Prop}, wpC E m c s P → (∀ e s', P e s' → P' e s') → wpC E m c s P'
  | .skip, _, _, _, h, hq => hq _ _ h
  | .exit _, _, _, _, h, hq => hq _ _ h
  | .ret, _, _, _, h, hq => hq _ _ h
  | .reg false _, _, _, _, h, hq => wpR_mono h (hq _)
  | .reg true _, _, _, _, h, hq => wpD_mono h (hq _)
  | .seq a b, s, P, P', h, hq => by
    simp only [wpC] at h ⊢
    refine wpC_mono (c := a) h fun e s' h' => ?_
    cases e with
    | normal => exact wpC_mono h' hq
    | exit j => exact hq _ _ h'
    | ret => exact hq _ _ h'
  | .cond c a b, s, P, P', h, hq => by
    simp only [wpC] at *
    revert h
    generalize exv s.ρ c = v
    rcases v with _ | v
    · exact fun h => h
    · cases v <;> first | exact fun h => h | exact fun h => ⟨fun e => wpC_mono (h.1 e) hq, fun e => wpC_mono (h.2 e) hq⟩
  | .block id c, s, P, P', h, hq => by
    simp only [wpC] at h ⊢
    refine wpC_mono (c := c) h fun e s' h' => ?_
    cases e with
    | normal => exact hq _ _ h'
    | exit j =>
      by_cases hj : j = id
      · simp only [if_pos hj] at *; exact hq _ _ h'
      · simp only [if_neg hj] at *; exact hq _ _ h'
    | ret => exact hq _ _ h'
  | .loop _, _, _, _, h, hq => h.mono hq

theorem go_mono {c : CC} {P P' : Ex → St → Prop} (h : go E m [.c c] s P) (hq : ∀ e s', P e s' → P' e s') : go E m [.c c] s P' := by
  rw [go] at *
  refine wpC_mono h fun e s' h => ?_
  cases e with
  | normal => simp only [thr, go] at *; exact hq _ _ h
  | exit j => simp only [thr] at *; exact hq _ _ h
  | ret => simp only [thr] at *; exact hq _ _ h

/-- A loop in its block: what holds at its head, what holds behind it. -/
theorem go_loop {i : Nat} {c : CC} (I : Nat → St → Prop) (P : St → Prop) (n : Nat) (h0 : I n s)
    (step : ∀ n s, I n s → go E m [.c c] s fun e s' => match e with
      | .normal => ∃ n' < n, I n' s'
      | .exit j => j = i ∧ P s'
      | .ret => Q .ret s')
    (hp : ∀ s, P s → go E m ts s Q) : go E m (.c (.loop c) :: .blk i :: ts) s Q := by
  refine go_cut (P := fun e s' => match e with
    | .normal => False
    | .exit j => j = i ∧ P s'
    | .ret => Q .ret s') ?_ (fun e s' h => ?_) ⟨_, rfl⟩
  · refine loop_ok I (fun n s hi => ?_) n s h0
    have := step n s hi
    rw [go] at this
    revert this
    generalize hk : wpC E m c s = w
    intro h
    subst hk
    have e : (fun e s' => thr E m e [] s' fun e s' => match e with
      | .normal => ∃ n' < n, I n' s'
      | .exit j => j = i ∧ P s'
      | .ret => Q .ret s') = fun e s' => match e with
      | .normal => ∃ n' < n, I n' s'
      | .exit j => j = i ∧ P s'
      | .ret => Q .ret s' := by
      funext e s'
      cases e <;> simp only [thr, go]
    rw [e] at h
    exact h
  · cases e with
    | normal => exact h.elim
    | exit j =>
      obtain ⟨rfl, hP⟩ := h
      rw [thr, if_pos rfl]
      exact hp _ hP
    | ret => rw [thr]; exact h

theorem callT_ok {draw : Bool} {f : Nat} {vs : List Value} {d : Option Nat} {P : Value → Hp → Prop} (h : ∀ m', (∀ id, s.H.length ≤ id → m.wr id = true) → (∀ id, s.H.length ≤ id → m'.wr id = true) → (m'.nr = m.nr) → (draw = false → m' = m) → Fun E m' f vs s.H P) (hw : ∀ id, s.H.length ≤ id → m.wr id = true)
    (hq : ∀ r H, P r H → go E m ts { s with H := H, ρ := upd s.ρ d (.val r) } Q) : callT E m draw f (some vs) s d ts Q := by
  unfold callT opt
  refine Fun.mono (h _ hw (fun id hid => ?_) ?_ ?_) hq
  · cases draw with
    | false => exact hw id hid
    | true => simp only [if_true, Md.drawn]; simp [hid]
  · cases draw <;> rfl
  · rintro rfl; rfl

end
end
end Go.Proofs.Ytdplmjlbkaipiaa.Ev
