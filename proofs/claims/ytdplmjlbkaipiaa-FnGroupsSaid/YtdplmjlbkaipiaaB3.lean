/- Texts of this proof, laid one behind the other: what each shows stands at its head. -/
import Derived.Test.YtdplmjlbkaipiaaB2
import Derived.ChangeSame
import Derived.ChangeShapes
import Derived.WideShapes
import Derived.Carry
import Derived.Sort.Grow
import Derived.Test.YtdplmjlbkaipiaaProg
import Derived.Test.YtdplmjlbkaipiaaRows
/- Code as a row of tasks: each step leaves a row of tasks behind, so that plain rewriting walks it. -/
namespace Go.Proofs.Ytdplmjlbkaipiaa.Ev
set_option linter.all false
open Go

inductive Tk where
  | c (c : CC)
  | o (draw : Bool) (o : CO)
  | r (os : List CO)
  | d (ops os : List CO) (acc : List (List Nat × Bool))
  | e (ops os : List CO) (acc : List (List Nat × Bool × Bool)) (n0 : Nat)
  | w (ops os : List CO) (acc : List (List Nat × Bool × Bool)) (lo hi : Nat)
  | blk (id : Nat)

section
variable (E : Env) (m : Md)

mutual
def go : List Tk → St → (Ex → St → Prop) → Prop
  | [], s, Q => Q .normal s
  | .c c :: ts, s, Q => wpC E m c s fun e s' => thr e ts s' Q
  | .o draw o :: ts, s, Q => wpO E m draw s o fun s' => go ts s' Q
  | .r os :: ts, s, Q => wpR E m os s fun s' => go ts s' Q
  | .d ops os acc :: ts, s, Q => wpD3 E m ops os s acc fun s' => go ts s' Q
  | .e ops os acc n0 :: ts, s, Q => wpD4 E m ops n0 os s acc fun s' => go ts s' Q
  | .w ops os acc lo hi :: ts, s, Q => wpD5 E m ops lo hi os s acc fun s' => go ts s' Q
  | .blk _ :: ts, s, Q => go ts s Q
termination_by ts => (ts.length, 1)
def thr : Ex → List Tk → St → (Ex → St → Prop) → Prop
  | .normal, ts, s, Q => go ts s Q
  | .ret, _, s, Q => Q .ret s
  | .exit j, [], s, Q => Q (.exit j) s
  | .exit j, .blk i :: ts, s, Q => if j = i then go ts s Q else thr (.exit j) ts s Q
  | .exit j, _ :: ts, s, Q => thr (.exit j) ts s Q
termination_by _ ts => (ts.length, 2)
end

/-- What an operation left, and the tasks from there. -/
def aft (r : Option (FV × St)) (dst : Option Nat) (ts : List Tk) (Q : Ex → St → Prop) : Prop :=
  match r with
  | some (v, s') => go E m ts { s' with ρ := upd s'.ρ dst v } Q
  | none => False

/-- A call, and the tasks behind it. -/
def callT (draw : Bool) (f : Nat) (vs : Option (List Value)) (s : St) (dst : Option Nat) (ts : List Tk) (Q : Ex → St → Prop) : Prop :=
  opt vs fun vs => Fun E (if draw then m.drawn E.pw s.H f vs else m) f vs s.H fun r H => go E m ts { s with H := H, ρ := upd s.ρ dst (.val r) } Q

def callVT (draw : Bool) (fv : Option Value) (vs : Option (List Value)) (s : St) (dst : Option Nat) (ts : List Tk) (Q : Ex → St → Prop) : Prop :=
  match fv with
  | some (.func (.func f) first caps) => if first.size = 0 then callT E m draw f (match vs with | some vs => some (vs ++ caps.toList) | none => none) s dst ts Q else False
  | _ => False

def stp (draw : Bool) (s : St) (k : CK) (dst : Option Nat) (ts : List Tk) (Q : Ex → St → Prop) : Prop :=
  match k with
  | .call f args => callT E m draw f (exvs s.ρ args) s dst ts Q
  | .callV x args => callVT E m draw (exv s.ρ x) (exvs s.ρ args) s dst ts Q
  | k => aft E m (stepK m s k) dst ts Q

/-- Two ways. -/
def brT (c : Bool) (t1 : List Tk) (s1 : St) (t2 : List Tk) (s2 : St) (Q : Ex → St → Prop) : Prop :=
  (c = true → go E m t1 s1 Q) ∧ (c = false → go E m t2 s2 Q)

def grd (fv : FV) (b : Bool) (t1 : List Tk) (s : St) (t2 : List Tk) (s2 : St) (Q : Ex → St → Prop) : Prop :=
  match fv with
  | .val (.bool c) => brT E m (c == b) t1 s t2 s2 Q
  | .val (.tuple _) => go E m t2 s2 Q
  | _ => False

def cnd (v : Option Value) (t1 t2 : List Tk) (s : St) (Q : Ex → St → Prop) : Prop :=
  match v with
  | some (.bool c) => brT E m c t1 s t2 s Q
  | _ => False

section
variable {E m} {s s1 s2 : St} {Q : Ex → St → Prop} {ts t1 t2 : List Tk}

theorem go_nil : go E m [] s Q = Q .normal s := by rw [go]
theorem go_blk (i : Nat) : go E m (.blk i :: ts) s Q = go E m ts s Q := by rw [go]
theorem go_skip : go E m (.c .skip :: ts) s Q = go E m ts s Q := by rw [go, wpC, thr]
theorem go_ret : go E m (.c .ret :: ts) s Q = Q .ret s := by rw [go, wpC, thr]
theorem go_exit (j : Nat) : go E m (.c (.exit j) :: ts) s Q = thr E m (.exit j) ts s Q := by rw [go, wpC]
theorem go_seq (a b : CC) : go E m (.c (.seq a b) :: ts) s Q = go E m (.c a :: .c b :: ts) s Q := by
  rw [go, wpC, go]
  congr 1
  funext e s'
  cases e with
  | normal => simp only [thr, go]
  | exit j => simp only [thr]
  | ret => simp only [thr]
theorem go_block (i : Nat) (c : CC) : go E m (.c (.block i c) :: ts) s Q = go E m (.c c :: .blk i :: ts) s Q := by
  rw [go, wpC, go]
  congr 1
  funext e s'
  cases e with
  | normal => simp only [thr, go]
  | exit j => simp only [thr]
  | ret => simp only [thr]
theorem go_reg (os : List CO) : go E m (.c (.reg false os) :: ts) s Q = go E m (.r os :: ts) s Q := by
  simp only [go, wpC, thr]
theorem go_r0 : go E m (.r [] :: ts) s Q = go E m ts s Q := by simp only [go, wpR]
theorem go_r (o : CO) (os : List CO) : go E m (.r (o :: os) :: ts) s Q = go E m (.o false o :: .r os :: ts) s Q := by simp only [go, wpR]
theorem go_d0 (ops : List CO) (acc : List (List Nat × Bool)) : go E m (.d ops [] acc :: ts) s Q = (chk ops acc.reverse = true ∧ go E m ts s Q) := by simp only [go, wpD3]
theorem go_d (ops os : List CO) (o : CO) (acc : List (List Nat × Bool)) : go E m (.d ops (o :: os) acc :: ts) s Q = go E m (.o true o :: .d ops os (boxOf s.ρ o :: acc) :: ts) s Q := by simp only [go, wpD3]
theorem go_e0 (ops : List CO) (acc : List (List Nat × Bool × Bool)) (n0 : Nat) : go E m (.e ops [] acc n0 :: ts) s Q = (chk2 E.pw ops acc.reverse = true ∧ go E m ts s Q) := by simp only [go, wpD4]
theorem go_e (ops os : List CO) (o : CO) (acc : List (List Nat × Bool × Bool)) (n0 : Nat) : go E m (.e ops (o :: os) acc n0 :: ts) s Q = go E m (.o true o :: .e ops os (box2 n0 s o :: acc) n0 :: ts) s Q := by simp only [go, wpD4]
theorem go_w0 (ops : List CO) (acc : List (List Nat × Bool × Bool)) (lo hi : Nat) : go E m (.w ops [] acc lo hi :: ts) s Q = (chk3 E.pw ops acc.reverse = true ∧ go E m ts s Q) := by simp only [go, wpD5]
theorem go_w (ops os : List CO) (o : CO) (acc : List (List Nat × Bool × Bool)) (lo hi : Nat) : go E m (.w ops (o :: os) acc lo hi :: ts) s Q = go E m (.o true o :: .w ops os (box3 lo hi s o :: acc) lo hi :: ts) s Q := by simp only [go, wpD5]
theorem go_cond (x : X) (a b : CC) : go E m (.c (.cond x a b) :: ts) s Q = cnd E m (exv s.ρ x) (.c a :: ts) (.c b :: ts) s Q := by
  simp only [go, wpC, cnd]
  generalize exv s.ρ x = v
  rcases v with _ | v
  · rfl
  · cases v <;> simp only [Br, brT, go]

theorem stp_wpK {draw : Bool} {k : CK} {dst : Option Nat} : (wpK E m draw s k fun v s' => go E m ts { s' with ρ := upd s'.ρ dst v } Q) = stp E m draw s k dst ts Q := by
  cases k with
  | call f args => simp only [wpK, stp, callT]
  | callV x args =>
    simp only [wpK, stp, callVT]
    generalize exv s.ρ x = v
    rcases v with _ | v
    · rfl
    · cases v with
      | func fn first caps =>
        cases fn with
        | func f =>
          simp only
          cases exvs s.ρ args with
          | none => simp [callT, opt]
          | some vs =>
            simp only [callT, opt]
            by_cases h0 : first.size = 0
            · simp [h0]
            · simp [h0]
        | _ => rfl
      | _ => rfl
  | _ =>
    simp only [wpK, stp, aft, opt]
    split <;> simp_all

theorem go_o (draw : Bool) (d : Option Nat) (k : CK) (i : Nat) (p : List Nat) : go E m (.o draw ⟨d, none, k, i, p⟩ :: ts) s Q = stp E m draw s k d ts Q := by
  rw [← stp_wpK]
  simp only [go, wpO]
theorem go_g (draw : Bool) (d : Option Nat) (t : Nat) (b : Bool) (k : CK) (i : Nat) (p : List Nat) : go E m (.o draw ⟨d, some (t, b), k, i, p⟩ :: ts) s Q =
    grd E m (s.ρ t) b (.o draw ⟨d, none, k, i, p⟩ :: ts) s ts { s with ρ := upd s.ρ d (.val (.tuple #[])) } Q := by
  simp only [go, wpO, grd]
  generalize s.ρ t = v
  cases v with
  | val v => cases v <;> simp only [Br, brT, go, wpO]
  | _ => rfl

theorem aft_some (v : FV) (d : Option Nat) : aft E m (some (v, s1)) d ts Q = go E m ts { s1 with ρ := upd s1.ρ d v } Q := rfl
theorem cnd_bool (c : Bool) : cnd E m (some (.bool c)) t1 t2 s Q = brT E m c t1 s t2 s Q := rfl
theorem grd_bool (c b : Bool) : grd E m (.val (.bool c)) b t1 s t2 s2 Q = brT E m (c == b) t1 s t2 s2 Q := rfl
theorem grd_tup (c : Array Value) (b : Bool) : grd E m (.val (.tuple c)) b t1 s t2 s2 Q = go E m t2 s2 Q := rfl
theorem brT_true : brT E m true t1 s1 t2 s2 Q = go E m t1 s1 Q := by simp [brT]
theorem brT_false : brT E m false t1 s1 t2 s2 Q = go E m t2 s2 Q := by simp [brT]
theorem brT_not (c : Bool) : brT E m (!c) t1 s1 t2 s2 Q = brT E m c t2 s2 t1 s1 Q := by cases c <;> simp [brT]
theorem brT.intro {c : Bool} (h1 : c = true → go E m t1 s1 Q) (h2 : c = false → go E m t2 s2 Q) : brT E m c t1 s1 t2 s2 Q := ⟨h1, h2⟩
theorem thr_exit (j i : Nat) : thr E m (.exit j) (.blk i :: ts) s Q = if j = i then go E m ts s Q else thr E m (.exit j) ts s Q := by simp only [thr]
theorem thr_c (j : Nat) (c : CC) : thr E m (.exit j) (.c c :: ts) s Q = thr E m (.exit j) ts s Q := by simp only [thr]
theorem thr_nil (j : Nat) : thr E m (.exit j) [] s Q = Q (.exit j) s := by simp only [thr]

theorem go_run {c : CC} (h : go E m [.c c] s Q) : Run E m c s Q := by
  rw [go] at h
  refine (wpC_ok h).mono fun e s' h => ?_
  cases e with
  | normal => rw [thr, go] at h; exact h
  | exit j => rw [thr] at h; exact h
  | ret => rw [thr] at h; exact h

theorem wpR_mono : ∀ {os : List CO} {s : St} {P P' : St → Prop}, wpR E m os s P → (∀ s', P s' → P' s') → wpR E m os s P'
  | [], _, _, _, h, hq => hq _ h
  | _ :: _, _, _, _, h, hq => wpO_mono h fun _ h' => wpR_mono h' hq

theorem wpD_mono : ∀ {os : List CO} {s : St} {acc : List (CO × Inf)} {P P' : St → Prop}, wpD E m os s acc P → (∀ s', P s' → P' s') → wpD E m os s acc P'
  | [], _, _, _, _, h, hq => ⟨h.1, hq _ h.2⟩
  | _ :: _, _, _, _, _, h, hq => wpO_mono h fun _ h' => wpD_mono h' hq

/-- A region with an open order, in which no call or writing stands in the open. -/
theorem go_draw {os : List CO} (h : go E m (.d os os [] :: ts) s Q) : go E m (.c (.reg true os) :: ts) s Q := by
  simp only [go, wpC, thr] at h ⊢
  exact wpD_easy h

theorem go_draw3 {os : List CO} (lo hi : Nat) (h : go E m (.w os os [] lo hi :: ts) s Q) : go E m (.c (.reg true os) :: ts) s Q := by
  simp only [go, wpC, thr] at h ⊢
  exact wpD5_easy h

/-- Cut: what code does is told by itself. -/
theorem go_cut {c : CC} {P : Ex → St → Prop} (h : Run E m c s P) (hq : ∀ e s', P e s' → thr E m e ts s' Q) (hl : ∃ b, c = .loop b) : go E m (.c c :: ts) s Q := by
  obtain ⟨b, rfl⟩ := hl
  rw [go, wpC]
  exact h.mono hq

theorem wpC_mono : ∀ {c : CC} {s : St} {P P' : Ex → St → Prop}, wpC E m c s P → (∀ e s', P e s' → P' e s') → wpC E m c s P'
  | .skip, _, _, _, h, hq => hq _ _ h
  | .exit _, _, _, _, h, hq => hq _ _ h
  | .ret, _, _, _, h, hq => hq _ _ h
  | .reg false _, _, _, _, h, hq => wpR_mono h (hq _)
  | .reg true _, _, _, _, h, hq => wpD_mono h (hq _)
  | .seq a b, s, P, P', h, hq => by
    simp only [wpC] at h ⊢
    refine wpC_mono (c := a) h fun e s' h' => ?_
    cases e with
    | normal => exact wpC_mono h' hq
    | exit j => exact hq _ _ h'
    | ret => exact hq _ _ h'
  | .cond c a b, s, P, P', h, hq => by
    simp only [wpC] at *
    revert h
    generalize exv s.ρ c = v
    rcases v with _ | v
    · exact fun h => h
    · cases v <;> first | exact fun h => h | exact fun h => ⟨fun e => wpC_mono (h.1 e) hq, fun e => wpC_mono (h.2 e) hq⟩
  | .block id c, s, P, P', h, hq => by
    simp only [wpC] at h ⊢
    refine wpC_mono (c := c) h fun e s' h' => ?_
    cases e with
    | normal => exact hq _ _ h'
    | exit j =>
      by_cases hj : j = id
      · simp only [if_pos hj] at *; exact hq _ _ h'
      · simp only [if_neg hj] at *; exact hq _ _ h'
    | ret => exact hq _ _ h'
  | .loop _, _, _, _, h, hq => h.mono hq

theorem go_mono {c : CC} {P P' : Ex → St → Prop} (h : go E m [.c c] s P) (hq : ∀ e s', P e s' → P' e s') : go E m [.c c] s P' := by
  rw [go] at *
  refine wpC_mono h fun e s' h => ?_
  cases e with
  | normal => simp only [thr, go] at *; exact hq _ _ h
  | exit j => simp only [thr] at *; exact hq _ _ h
  | ret => simp only [thr] at *; exact hq _ _ h

/-- A loop in its block: what holds at its head, what holds behind it. -/
theorem go_loop {i : Nat} {c : CC} (I : Nat → St → Prop) (P : St → Prop) (n : Nat) (h0 : I n s)
    (step : ∀ n s, I n s → go E m [.c c] s fun e s' => match e with
      | .normal => ∃ n' < n, I n' s'
      | .exit j => j = i ∧ P s'
      | .ret => Q .ret s')
    (hp : ∀ s, P s → go E m ts s Q) : go E m (.c (.loop c) :: .blk i :: ts) s Q := by
  refine go_cut (P := fun e s' => match e with
    | .normal => False
    | .exit j => j = i ∧ P s'
    | .ret => Q .ret s') ?_ (fun e s' h => ?_) ⟨_, rfl⟩
  · refine loop_ok I (fun n s hi => ?_) n s h0
    have := step n s hi
    rw [go] at this
    revert this
    generalize hk : wpC E m c s = w
    intro h
    subst hk
    have e : (fun e s' => thr E m e [] s' fun e s' => match e with
      | .normal => ∃ n' < n, I n' s'
      | .exit j => j = i ∧ P s'
      | .ret => Q .ret s') = fun e s' => match e with
      | .normal => ∃ n' < n, I n' s'
      | .exit j => j = i ∧ P s'
      | .ret => Q .ret s' := by
      funext e s'
      cases e <;> simp only [thr, go]
    rw [e] at h
    exact h
  · cases e with
    | normal => exact h.elim
    | exit j =>
      obtain ⟨rfl, hP⟩ := h
      rw [thr, if_pos rfl]
      exact hp _ hP
    | ret => rw [thr]; exact h

theorem callT_ok {draw : Bool} {f : Nat} {vs : List Value} {d : Option Nat} {P : Value → Hp → Prop} (h : ∀ m', (∀ id, s.H.length ≤ id → m.wr id = true) → (∀ id, s.H.length ≤ id → m'.wr id = true) → (m'.nr = m.nr) → (draw = false → m' = m) → Fun E m' f vs s.H P) (hw : ∀ id, s.H.length ≤ id → m.wr id = true)
    (hq : ∀ r H, P r H → go E m ts { s with H := H, ρ := upd s.ρ d (.val r) } Q) : callT E m draw f (some vs) s d ts Q := by
  unfold callT opt
  refine Fun.mono (h _ hw (fun id hid => ?_) ?_ ?_) hq
  · cases draw with
    | false => exact hw id hid
    | true => simp only [if_true, Md.drawn]; simp [hid]
  · cases draw <;> rfl
  · rintro rfl; rfl

end
end
end Go.Proofs.Ytdplmjlbkaipiaa.Ev

/- Slices as lists; functions that leave memory as it is. -/
namespace Go.Proofs.Ytdplmjlbkaipiaa.Ev
set_option linter.all false
open Go

section
variable {E : Env} {m : Md}

theorem Fun.det {f : Nat} {vs : List Value} {H : Hp} {P Q : Value → Hp → Prop} (h : Fun E m f vs H P) (k : Fun E m f vs H Q) : Fun E m f vs H fun r H' => P r H' ∧ Q r H' := by
  obtain ⟨k1, r1, H1, h1, h2⟩ := h
  obtain ⟨k2, r2, H2, h3, h4⟩ := k
  have e1 := evF_mono k2 h1
  have e2 := evF_mono k1 h3
  rw [Nat.add_comm] at e2
  rw [e1] at e2
  cases e2
  exact ⟨k1, r1, H1, h1, h2, h4⟩

/-- A function that answers this and leaves memory as it is, however it is called. -/
def Scal (E : Env) (f : Nat) (vs : List Value) (H : Hp) (r : Value) : Prop := ∀ m : Md, (∀ id, H.length ≤ id → m.wr id = true) → Fun E m f vs H fun r' H' => r' = r ∧ H' = H

theorem callT_scal {f : Nat} {vs : List Value} {H : Hp} {r : Value} (h : Scal E f vs H r) {draw : Bool} {s : St} {d : Option Nat} {ts : List Tk} {Q : Ex → St → Prop} (hH : s.H = H) (hw : ∀ id, H.length ≤ id → m.wr id = true) :
    callT E m draw f (some vs) s d ts Q = go E m ts { s with ρ := upd s.ρ d (.val r) } Q := by
  subst hH
  have hm := h (if draw then m.drawn E.pw s.H f vs else m) (fun id hid => by
    cases draw with
    | false => exact hw id hid
    | true => simp only [if_true, Md.drawn]; simp [hid])
  unfold callT opt
  simp only
  refine propext ⟨fun hf => ?_, fun hg => hm.mono fun r' H' ⟨e1, e2⟩ => by subst e1; subst e2; exact hg⟩
  obtain ⟨_, _, _, _, ⟨e1, e2⟩, h2⟩ := hm.det hf
  subst e1; subst e2
  exact h2

/-- New rows may be written. -/
def Wr (m : Md) (H : Hp) : Prop := ∀ id, H.length ≤ id → m.wr id = true

theorem callT_at {f : Nat} {vs : List Value} {H : Hp} {r : Value} (h : Scal E f vs H r) {draw : Bool} {s : St} {d : Option Nat} {ts : List Tk} {Q : Ex → St → Prop} (hH : s.H = H) (hw : Wr m H) :
    callT E m draw f (some vs) s d ts Q = go E m ts { s with ρ := upd s.ρ d (.val r) } Q := callT_scal h hH hw

theorem callT_to {f : Nat} {vs : List Value} {H : Hp} {P : Value → Hp → Prop} {draw : Bool} {s : St} {d : Option Nat} {ts : List Tk} {Q : Ex → St → Prop} (h : ∀ m' : Md, Wr m' H → Fun E m' f vs H P) (hH : s.H = H) (hw : Wr m H)
    (hq : ∀ r H', P r H' → go E m ts { s with H := H', ρ := upd s.ρ d (.val r) } Q) : callT E m draw f (some vs) s d ts Q := by
  subst hH
  exact callT_ok (fun m' _ h2 _ _ => h m' h2) hw hq

theorem Wr.pre {H H' : Hp} (h : Wr m H) (hp : H <+: H') : Wr m H' := fun id hid => h id (Nat.le_trans hp.length_le hid)

theorem Scal.fun {f : Nat} {vs : List Value} {H : Hp} {r : Value} (h : Scal E f vs H r) (hw : ∀ id, H.length ≤ id → m.wr id = true) {Q : Value → Hp → Prop} (hq : Q r H) : Fun E m f vs H Q :=
  (h m hw).mono fun _ _ ⟨e1, e2⟩ => by subst e1; subst e2; exact hq

/-- A slice that stands for a list; what an element's cells must be is told by R. -/
def Sl {α : Type} (R : α → List Value → Prop) (esz : Nat) (H : Hp) (v : Value) (l : List α) : Prop :=
  (v = .slice none 0 0 ∧ l = []) ∨ ∃ id off cap o, v = .slice (some ⟨id, off, some esz⟩) l.length cap ∧ H[id]? = some o ∧ off + cap = o.length ∧ l.length * esz ≤ cap ∧ l.length ≤ 9223372036854775807 ∧
    ∀ i a, l[i]? = some a → R a ((o.drop (off + i * esz)).take esz)

/-- Elements of plain cells. -/
def En {α : Type} (enc : α → List Value) (a : α) (cs : List Value) : Prop := cs = enc a

def eI (n : Int) : List Value := [.int .i64 n]

theorem getElem?_of_take {o : List Value} {a n j : Nat} {cs : List Value} (h : (o.drop a).take n = cs) (hj : j < n) : o[a + j]? = cs[j]? := by
  subst h
  rw [List.getElem?_take, if_pos hj, List.getElem?_drop]

section
variable {α : Type} {R : α → List Value → Prop} {esz : Nat} {H : Hp} {v : Value} {l : List α}

theorem Sl.len (h : Sl R esz H v l) {s : St} {x : X} (hx : exv s.ρ x = some v) : lenSK s x = some (.val (.int .i64 l.length), s) := by
  unfold lenSK
  rw [hx]
  rcases h with ⟨rfl, rfl⟩ | ⟨id, off, cap, o, rfl, _⟩ <;> rfl

theorem Sl.room (h : Sl R esz H v l) : l.length ≤ 9223372036854775807 := by
  rcases h with ⟨rfl, rfl⟩ | ⟨id, off, cap, o, rfl, ho, hc, hn, hrm, hr⟩
  · simp
  · exact hrm

theorem Sl.elem (h : Sl R esz H v l) {i : Nat} {a : α} (hi : l[i]? = some a) : ∃ id p o, H[id]? = some o ∧ R a ((o.drop p).take esz) ∧ p + esz ≤ o.length ∧
    ∀ (s : St) (x y : X), exv s.ρ x = some v → exv s.ρ y = some (.int .i64 i) → iadrK s esz x y = some (.val (.pointer (some ⟨id, p, some o.length⟩)), s) := by
  have hl := (List.getElem?_eq_some_iff.1 hi).1
  rcases h with ⟨rfl, rfl⟩ | ⟨id, off, cap, o, rfl, ho, hc, hn, hrm, hr⟩
  · simp at hi
  · have hm : (i + 1) * esz ≤ l.length * esz := Nat.mul_le_mul_right _ (by omega)
    rw [Nat.succ_mul] at hm
    refine ⟨id, off + i * esz, o, ho, hr i a hi, by omega, fun s x y hx hy => ?_⟩
    unfold iadrK
    rw [hx, hy]
    simp only [Int.toNat_natCast, hc]
    rw [if_pos ⟨trivial, by omega, by omega⟩]

theorem Sl.take (h : Sl R esz H v l) {i : Nat} (hi : i ≤ l.length) : ∃ v', Sl R esz H v' (l.take i) ∧
    ∀ (s : St) (x y : X), exv s.ρ x = some v → exv s.ρ y = some (.int .i64 i) → slcK s esz x none (some y) = some (.val v', s) := by
  rcases h with ⟨rfl, rfl⟩ | ⟨id, off, cap, o, rfl, ho, hc, hn, hrm, hr⟩
  · simp at hi
    subst hi
    refine ⟨.slice none 0 0, .inl ⟨rfl, by simp⟩, fun s x y hx hy => ?_⟩
    simp only [slcK, bnd, hx, hy]
    rfl
  · have hm : i * esz ≤ l.length * esz := Nat.mul_le_mul_right _ hi
    refine ⟨.slice (some ⟨id, off, some esz⟩) i cap, .inr ⟨id, off, cap, o, by rw [List.length_take, Nat.min_eq_left hi], ho, hc, by rw [List.length_take, Nat.min_eq_left hi]; omega, by rw [List.length_take]; omega, fun j a hj => ?_⟩, fun s x y hx hy => ?_⟩
    · rw [List.getElem?_take] at hj
      split at hj
      · exact hr j a hj
      · cases hj
    · simp only [slcK, bnd, hx, hy]
      rw [if_pos ⟨trivial, by omega, by omega, .inl (by omega), by simp⟩]
      simp [St.val]

/-- What stays as long as its rows stay. -/
theorem Sl.frame {R' : α → List Value → Prop} {H' : Hp} (h : Sl R esz H v l) (hr : ∀ a ∈ l, ∀ cs, R a cs → R' a cs) (hH : ∀ id off e len cap, v = .slice (some ⟨id, off, e⟩) len cap → H'[id]? = H[id]?) : Sl R' esz H' v l := by
  rcases h with ⟨rfl, rfl⟩ | ⟨id, off, cap, o, rfl, ho, hc, hn, hrm, hr2⟩
  · exact .inl ⟨rfl, rfl⟩
  · exact .inr ⟨id, off, cap, o, rfl, by rw [hH _ _ _ _ _ rfl]; exact ho, hc, hn, hrm, fun i a hi => hr a (List.mem_of_getElem? hi) _ (hr2 i a hi)⟩

end

/-- How a function ends. -/
def retT (v : Option Value) (tr : Bool) (H H' : Hp) (Q : Value → Hp → Prop) : Prop :=
  match v with
  | some v => (tr = true → flatScal v = true) ∧ Q v (if tr = true then H'.take H.length else H')
  | none => False

theorem post_ret {f : Nat} {res : List RV} {H : Hp} {Q : Value → Hp → Prop} {s : St} : FunPost E f res H Q .ret s = retT (resT s res) (E.tr f) H s.H Q := by
  unfold FunPost opt retT
  simp only
  cases resT s res with
  | none => rfl
  | some v => cases E.tr f <;> simp
theorem post_normal {f : Nat} {res : List RV} {H : Hp} {Q : Value → Hp → Prop} {s : St} : FunPost E f res H Q .normal s = retT (resT s res) (E.tr f) H s.H Q := by
  rw [← post_ret]; rfl
theorem retT_true {v : Value} {H H' : Hp} {Q : Value → Hp → Prop} : retT (some v) true H H' Q = (flatScal v = true ∧ Q v (H'.take H.length)) := by simp [retT]
theorem retT_false {v : Value} {H H' : Hp} {Q : Value → Hp → Prop} : retT (some v) false H H' Q = Q v H' := by simp [retT]
theorem flat_bool (b : Bool) : flatScal (.bool b) = true := rfl
theorem flat_int (k : IntKind) (n : Int) : flatScal (.int k n) = true := rfl
theorem flat_str (n : ByteArray) : flatScal (.string n) = true := rfl

/-- How a function's code is to end. -/
def Post (res : List RV) (tr : Bool) (H : Hp) (Q : Value → Hp → Prop) (e : Ex) (s : St) : Prop :=
  match e with
  | .exit _ => False
  | _ => retT (resT s res) tr H s.H Q
theorem Post_ret {res : List RV} {tr : Bool} {H : Hp} {Q : Value → Hp → Prop} {s : St} : Post res tr H Q .ret s = retT (resT s res) tr H s.H Q := rfl
theorem Post_normal {res : List RV} {tr : Bool} {H : Hp} {Q : Value → Hp → Prop} {s : St} : Post res tr H Q .normal s = retT (resT s res) tr H s.H Q := rfl
def PostS (res : List RV) (H : Hp) (r : Value) (e : Ex) (s : St) : Prop :=
  match e with
  | .exit _ => False
  | _ => resT s res = some r ∧ s.H.take H.length = H
theorem PostS_ret {res : List RV} {H : Hp} {r : Value} {s : St} : PostS res H r .ret s = (resT s res = some r ∧ s.H.take H.length = H) := rfl
theorem PostS_normal {res : List RV} {H : Hp} {r : Value} {s : St} : PostS res H r .normal s = (resT s res = some r ∧ s.H.take H.length = H) := rfl

theorem fun_ok {f : Nat} {cf : CF} {vs : List Value} {H : Hp} {Q : Value → Hp → Prop} {tr : Bool} (ht : E.tr f = tr) (hp : E.prim f = none) (hf : E.fns f = some cf) (hl : vs.length ≤ cf.nt)
    (h : go E { m with nr := m.nr || tr } [.c cf.body] { ρ := ini vs, gn := 0, H := H } (Post cf.res tr H Q)) : Fun E m f vs H Q := by
  subst ht
  refine Fun.intro hp hf hl ((go_run h).mono fun e s' h' => ?_)
  cases e with
  | normal => rw [post_normal]; exact h'
  | exit j => exact h'
  | ret => rw [post_ret]; exact h'

theorem fun_f {f : Nat} {cf : CF} {vs : List Value} {H : Hp} {Q : Value → Hp → Prop} (ht : E.tr f = false) (hp : E.prim f = none) (hf : E.fns f = some cf) (hl : vs.length ≤ cf.nt)
    (h : go E m [.c cf.body] { ρ := ini vs, gn := 0, H := H } (Post cf.res false H Q)) : Fun E m f vs H Q :=
  fun_ok ht hp hf hl (by rw [Bool.or_false]; exact h)

theorem scal_ok {f : Nat} {cf : CF} {vs : List Value} {H : Hp} {r : Value} (ht : E.tr f = true) (hp : E.prim f = none) (hf : E.fns f = some cf) (hl : vs.length ≤ cf.nt) (hr : flatScal r = true)
    (h : ∀ m : Md, Wr m H → go E m [.c cf.body] { ρ := ini vs, gn := 0, H := H } (PostS cf.res H r)) : Scal E f vs H r := by
  intro m hw
  refine Fun.intro hp hf hl ((go_run (h { m with nr := m.nr || E.tr f } hw)).mono fun e s' h' => ?_)
  cases e with
  | normal => rw [post_normal, h'.1, ht, retT_true]; exact ⟨hr, rfl, h'.2⟩
  | exit j => exact h'
  | ret => rw [post_ret, h'.1, ht, retT_true]; exact ⟨hr, rfl, h'.2⟩

/-- A loop that counts up. -/
theorem go_for {s : St} {Q : Ex → St → Prop} {ts : List Tk} {b : Nat} {c : CC} (N : Nat) (I : Nat → St → Prop) (P : St → Prop) (h0 : I 0 s)
    (step : ∀ i s, i ≤ N → I i s → go E m [.c c] s fun e s' => match e with
      | .normal => i < N ∧ I (i + 1) s'
      | .exit j => j = b ∧ P s'
      | .ret => Q .ret s')
    (hp : ∀ s, P s → go E m ts s Q) : go E m (.c (.loop c) :: .blk b :: ts) s Q := by
  refine go_loop (fun n s => ∃ i, n = N - i ∧ i ≤ N ∧ I i s) P N ⟨0, by simp, by simp, h0⟩ (fun n s h => ?_) hp
  obtain ⟨i, rfl, hi, hI⟩ := h
  refine go_mono (step i s hi hI) fun e s' h => ?_
  cases e with
  | normal => exact ⟨N - (i + 1), by omega, i + 1, rfl, by omega, h.2⟩
  | exit j => exact h
  | ret => exact h

theorem spl_nil (o : List Value) (i : Nat) : spl o i [] = o := rfl
theorem spl_z : ∀ (cs : List Value) (x : Value) (xs : List Value) (c : Value), spl (x :: xs) 0 (c :: cs) = c :: spl xs 0 cs := by
  have h : ∀ (cs : List Value) (x : Value) (xs : List Value) (i : Nat), spl (x :: xs) (i + 1) cs = x :: spl xs i cs := by
    intro cs
    induction cs with
    | nil => intros; rfl
    | cons c cs ih => intro x xs i; rw [spl, spl, List.set_cons_succ, ih]
  intro cs x xs c
  rw [spl, List.set_cons_zero, h]
theorem spl_s (cs : List Value) : ∀ (x : Value) (xs : List Value) (i : Nat), spl (x :: xs) (i + 1) cs = x :: spl xs i cs := by
  induction cs with
  | nil => intros; rfl
  | cons c cs ih => intro x xs i; rw [spl, spl, List.set_cons_succ, ih]
section
variable (cs : List Value) (x : Value) (xs : List Value)
theorem spl_1 : spl (x :: xs) 1 cs = x :: spl xs 0 cs := spl_s cs x xs 0
theorem spl_2 : spl (x :: xs) 2 cs = x :: spl xs 1 cs := spl_s cs x xs 1
theorem spl_3 : spl (x :: xs) 3 cs = x :: spl xs 2 cs := spl_s cs x xs 2
theorem spl_4 : spl (x :: xs) 4 cs = x :: spl xs 3 cs := spl_s cs x xs 3
theorem spl_5 : spl (x :: xs) 5 cs = x :: spl xs 4 cs := spl_s cs x xs 4
theorem spl_6 : spl (x :: xs) 6 cs = x :: spl xs 5 cs := spl_s cs x xs 5
theorem spl_7 : spl (x :: xs) 7 cs = x :: spl xs 6 cs := spl_s cs x xs 6
theorem spl_8 : spl (x :: xs) 8 cs = x :: spl xs 7 cs := spl_s cs x xs 7
end
theorem zeros_0 (z : List Value) : zeros 0 z = [] := rfl
theorem zeros_1 (z : List Value) : zeros 1 z = z := by simp [zeros]
theorem zeros_2 (z : List Value) : zeros 2 z = z ++ z := by simp [zeros, List.replicate_succ]
theorem zeros_3 (z : List Value) : zeros 3 z = z ++ (z ++ z) := by simp [zeros, List.replicate_succ]
theorem zeros_4 (z : List Value) : zeros 4 z = z ++ (z ++ (z ++ z)) := by simp [zeros, List.replicate_succ]
theorem vc_agg (cs : Array Value) : vc (.agg cs) = some cs.toList := rfl
theorem vc_int (k : IntKind) (n : Int) : vc (.int k n) = some [.int k n] := rfl
theorem vc_bool (b : Bool) : vc (.bool b) = some [.bool b] := rfl
theorem vc_str (b : ByteArray) : vc (.string b) = some [.string b] := rfl
theorem vc_ptr (p : Option Addr) : vc (.pointer p) = some [.pointer p] := rfl
theorem vc_sl (a : Option Addr) (l c : Nat) : vc (.slice a l c) = some [.slice a l c] := rfl
theorem vc_fn (f : Fn) (a c : Array Value) : vc (.func f a c) = some [.func f a c] := rfl
theorem Sl.vc {α : Type} {R : α → List Value → Prop} {esz : Nat} {H : Hp} {v : Value} {l : List α} (h : Sl R esz H v l) : vc v = some [v] := by
  rcases h with ⟨rfl, _⟩ | ⟨_, _, _, _, rfl, _⟩ <;> rfl
theorem scal_int (k : IntKind) (n : Int) : scal (.int k n) = true := rfl
theorem scal_bool (b : Bool) : scal (.bool b) = true := rfl
theorem scal_str (b : ByteArray) : scal (.string b) = true := rfl
theorem scal_nil : scal (.slice none 0 0) = true := rfl

theorem wrap64 (n : Int) (h0 : -9223372036854775808 ≤ n) (h1 : n < 9223372036854775808) : IntKind.i64.wrap n = n := by
  simp [IntKind.wrap, IntKind.bits, IntKind.signed]
  omega

end
end Go.Proofs.Ytdplmjlbkaipiaa.Ev

/- Slices that are one's own: writing into them, growing them. -/
namespace Go.Proofs.Ytdplmjlbkaipiaa.Ev
set_option linter.all false
open Go

/-- A slice with a row of its own, from N on, from the row's start. -/
def OwnS (N : Nat) (v : Value) : Prop := v = .slice none 0 0 ∨ ∃ id e len cap, v = .slice (some ⟨id, 0, some e⟩) len cap ∧ N ≤ id

theorem take_drop_get (o : List Value) (p n j : Nat) : ((o.drop p).take n)[j]? = if j < n then o[p + j]? else none := by
  rw [List.getElem?_take]
  split <;> simp [List.getElem?_drop]

theorem spl_same {o cs : List Value} {p : Nat} (h : p + cs.length ≤ o.length) : ((spl o p cs).drop p).take cs.length = cs := by
  refine List.ext_getElem? fun j => ?_
  rw [take_drop_get]
  by_cases hj : j < cs.length
  · rw [if_pos hj, spl_get, if_pos (by omega), if_pos (by omega), show p + j - p = j by omega]
  · rw [if_neg hj, List.getElem?_eq_none (by omega)]

theorem spl_other {o cs : List Value} {p q n : Nat} (h : q + n ≤ p ∨ p + cs.length ≤ q) : ((spl o p cs).drop q).take n = (o.drop q).take n := by
  refine List.ext_getElem? fun j => ?_
  rw [take_drop_get, take_drop_get]
  by_cases hj : j < n
  · rw [if_pos hj, if_pos hj, spl_get, if_neg (by omega)]
  · rw [if_neg hj, if_neg hj]

theorem pre_set {H0 H : Hp} {id : Nat} {r : List Value} (h : H0 <+: H) (hid : H0.length ≤ id) : H0 <+: H.set id r := by
  obtain ⟨t, rfl⟩ := h
  exact ⟨t.set (id - H0.length) r, by rw [List.set_append_right _ _ hid]⟩

theorem pre_push {H0 H : Hp} {r : List Value} (h : H0 <+: H) : H0 <+: H ++ [r] := by
  obtain ⟨t, rfl⟩ := h
  exact ⟨t ++ [r], by simp⟩

theorem pre_get {H0 H : Hp} (h : H0 <+: H) {id : Nat} (hid : id < H0.length) : H[id]? = H0[id]? := by
  obtain ⟨t, rfl⟩ := h
  rw [List.getElem?_append_left hid]

section
variable {α : Type} {R : α → List Value → Prop} {esz : Nat} {H : Hp} {v : Value} {l : List α}

/-- What a slice says of older rows stays. -/
theorem Sl.pre {H' : Hp} (h : Sl R esz H v l) (hp : H <+: H') : Sl R esz H' v l := by
  rcases h with ⟨rfl, rfl⟩ | ⟨id, off, cap, o, rfl, ho, hc, hn, hrm, hr⟩
  · exact .inl ⟨rfl, rfl⟩
  · exact .inr ⟨id, off, cap, o, rfl, by rw [pre_get hp (List.getElem?_eq_some_iff.1 ho).1]; exact ho, hc, hn, hrm, hr⟩

theorem Sl.ids (h : Sl R esz H v l) : ∀ id ∈ idsOf v, id < H.length := by
  rcases h with ⟨rfl, rfl⟩ | ⟨id, off, cap, o, rfl, ho, _⟩
  · simp [idsOf]
  · simp only [idsOf, List.mem_singleton]
    rintro _ rfl
    exact (List.getElem?_eq_some_iff.1 ho).1

theorem Sl.other {r : List Value} {id : Nat} (h : Sl R esz H v l) (hid : id ∉ idsOf v) : Sl R esz (H.set id r) v l := by
  rcases h with ⟨rfl, rfl⟩ | ⟨id', off, cap, o, rfl, ho, hc, hn, hrm, hr⟩
  · exact .inl ⟨rfl, rfl⟩
  · simp only [idsOf, List.mem_singleton] at hid
    exact .inr ⟨id', off, cap, o, rfl, by rw [List.getElem?_set_ne (by omega)]; exact ho, hc, hn, hrm, hr⟩

/-- Writing an element. -/
theorem Sl.store (h : Sl R esz H v l) {i : Nat} (hi : i < l.length) : ∃ id p o, H[id]? = some o ∧ p + esz ≤ o.length ∧ idsOf v = [id] ∧
    (∀ (s : St) (x y : X), exv s.ρ x = some v → exv s.ρ y = some (.int .i64 i) → iadrK s esz x y = some (.val (.pointer (some ⟨id, p, some o.length⟩)), s)) ∧
    ∀ a cs, cs.length = esz → R a cs → Sl R esz (H.set id (spl o p cs)) v (l.set i a) := by
  rcases h with ⟨rfl, rfl⟩ | ⟨id, off, cap, o, rfl, ho, hc, hn, hrm, hr⟩
  · simp at hi
  · have hm : (i + 1) * esz ≤ l.length * esz := Nat.mul_le_mul_right _ (by omega)
    rw [Nat.succ_mul] at hm
    have hid := (List.getElem?_eq_some_iff.1 ho).1
    refine ⟨id, off + i * esz, o, ho, by omega, rfl, fun s x y hx hy => ?_, fun a cs hcs hRa => .inr ⟨id, off, cap, spl o (off + i * esz) cs, by rw [List.length_set], by rw [List.getElem?_set_self hid], by rw [spl_length]; exact hc, by rw [List.length_set]; exact hn, by rw [List.length_set]; exact hrm, fun j b hj => ?_⟩⟩
    · unfold iadrK
      rw [hx, hy]
      simp only [Int.toNat_natCast, hc]
      rw [if_pos ⟨trivial, by omega, by omega⟩]
    · rw [List.getElem?_set] at hj
      split at hj
      · rename_i hij
        subst hij
        cases hj
        have := spl_same (o := o) (cs := cs) (p := off + i * esz) (by omega)
        rw [hcs] at this
        rw [this]
        exact hRa
      · rename_i hij
        rw [spl_other]
        · exact hr j b hj
        · rw [hcs]
          by_cases hlt : j < i
          · have : (j + 1) * esz ≤ i * esz := Nat.mul_le_mul_right _ (by omega)
            rw [Nat.succ_mul] at this
            exact .inl (by omega)
          · have : (i + 1) * esz ≤ j * esz := Nat.mul_le_mul_right _ (by omega)
            rw [Nat.succ_mul] at this
            exact .inr (by omega)

/-- A new slice of equal elements. -/
theorem make_sl {z : α} {zero : List Value} {n bytes : Nat} (hz : zero.length = esz) (hR : R z zero) (hn : n ≤ room) (hb : n * bytes ≤ room) :
    Sl R esz (H ++ [zeros n zero]) (.slice (some ⟨H.length, 0, some esz⟩) n (n * esz)) (List.replicate n z) ∧
    ∀ (s : St) (x y : X), s.H = H → exv s.ρ x = some (.int .i64 n) → exv s.ρ y = some (.int .i64 n) → makeSK s esz bytes zero x y = some (.val (.slice (some ⟨H.length, 0, some esz⟩) n (n * esz)), { s with H := H ++ [zeros n zero] }) := by
  have hlen : (zeros n zero).length = n * esz := by simp [zeros, hz]
  constructor
  · refine .inr ⟨H.length, 0, n * esz, zeros n zero, by rw [List.length_replicate], by rw [List.getElem?_append_right (Nat.le_refl _), Nat.sub_self]; rfl, by omega, by rw [List.length_replicate]; exact Nat.le_refl _, by rw [List.length_replicate]; unfold room at hn; omega, fun i a hi => ?_⟩
    rw [List.getElem?_replicate] at hi
    split at hi
    · rename_i hin
      cases hi
      have : ((zeros n zero).drop (0 + i * esz)).take esz = zero := by
        unfold zeros
        have := List.replicate_append_replicate (n := i) (m := n - i) (a := zero)
        rw [show i + (n - i) = n by omega] at this
        rw [← this, List.flatten_append, Nat.zero_add, List.drop_left' (by rw [List.length_flatten]; simp [hz]), show n - i = (n - i - 1) + 1 by omega, List.replicate_succ, List.flatten_cons, List.take_left' hz]
      rw [this]
      exact hR
    · cases hi
  · intro s x y hH hx hy
    unfold makeSK
    rw [hx, hy]
    simp only [Int.toNat_natCast, hH]
    unfold room at hn hb
    have hb2 : ((n * bytes : Nat) : Int) ≤ (140737488355328 : Int) := by omega
    rw [Int.natCast_mul] at hb2
    rw [if_pos ⟨by omega, by omega, hb2, by omega⟩]

end
end Go.Proofs.Ytdplmjlbkaipiaa.Ev

/- What comes in by a law's parameters, as rows of the small machine. -/
namespace Go.Proofs.Ytdplmjlbkaipiaa.Ev
set_option linter.all false
open Go Go.ChangeShapes Go.WideShapes Go.RowKit

/-- Is there a block of cells at all? -/
def Blk (w : World) : Prop := ∃ (b : Nat) (ds : Array Value) (e : TypeId) (lo hi : Nat), w.heap[b]? = some (.cells ds e (lo, hi))

/-- Rows that are only read. -/
def RdRel (J : Inj) (M : Hp) (w : World) : Prop := WRel M.length J M w

def Ext (J : Inj) (M : Hp) (J' : Inj) (M' : Hp) : Prop := M <+: M' ∧ ∀ id, id < M.length → J' id = J id

theorem Ext.refl (J : Inj) (M : Hp) : Ext J M J M := ⟨List.prefix_refl _, fun _ _ => rfl⟩
theorem Ext.trans {J J' J'' : Inj} {M M' M'' : Hp} (h : Ext J M J' M') (k : Ext J' M' J'' M'') : Ext J M J'' M'' :=
  ⟨h.1.trans k.1, fun id hid => (k.2 id (Nat.lt_of_lt_of_le hid h.1.length_le)).trans (h.2 id hid)⟩
theorem Ext.keep {J J' : Inj} {M M' : Hp} (h : Ext J M J' M') : Keep J M J' M' := fun id o ho =>
  ⟨o, by rw [pre_get h.1 (List.getElem?_eq_some_iff.1 ho).1]; exact ho, .inr ⟨rfl, h.2 id (List.getElem?_eq_some_iff.1 ho).1⟩⟩

/-- Values of a type, brought into the machine: what stands for them, and what is known of them. -/
structure Bld {α : Type} (P : Program) (t : TypeId) (sz : Nat) (R : Hp → α → List Value → Prop) (ok : α → Prop) : Prop where
  cells : P.cellsOf t = sz
  pos : 0 < sz
  mono : ∀ {M M' : Hp} {z : α} {vs : List Value}, M <+: M' → R M z vs → R M' z vs
  bld : ∀ {H : Type} {enc : TypeId × Value → H} {w : World} {base : Nat} {held : Bool} {fuel : Nat} {cs : List Value} {x : DataW H × List MemPlace},
    DataW.trod enc P w base (fun _ => true) held fuel t cs = some x → (∀ a l c, .slice (some a) l c ∈ cs → Blk w) → ∀ (J : Inj) (M : Hp), RdRel J M w →
    ∃ (J' : Inj) (M' : Hp) (vs : List Value) (z : α), Ext J M J' M' ∧ RdRel J' M' w ∧ LRel J' M' vs cs ∧ (∀ v ∈ vs, v.oneCell' = true) ∧ R M' z vs ∧ ok z

theorem RdRel.nil (w : World) : RdRel (fun _ => none) [] w :=
  ⟨fun id o h => by simp at h, fun _ _ _ _ _ _ h _ => by simp at h, fun _ _ => rfl⟩

section
variable {P : Program}

theorem Bld.int {k : IntKind} {t : TypeId} (ht : P.underlying t = some (.int k)) (hc : P.cellsOf t = 1) : Bld P t 1 (fun _ n vs => vs = [.int k n]) (fun n => (Lit.int k n).wf = true) :=
  ⟨hc, by omega, fun _ h => h, fun h _ J M hr => by
    obtain ⟨n, rfl, _, hw⟩ := DataW.trod_int ht h
    exact ⟨J, M, _, n, .refl _ _, hr, .cons (.int k n) .nil, by simp [Value.oneCell'], rfl, hw⟩⟩

theorem Bld.bool {t : TypeId} (ht : P.underlying t = some .bool) (hc : P.cellsOf t = 1) : Bld P t 1 (fun _ b vs => vs = [.bool b]) (fun _ => True) :=
  ⟨hc, by omega, fun _ h => h, fun h _ J M hr => by
    obtain ⟨n, rfl, _⟩ := DataW.trod_bool ht h
    exact ⟨J, M, _, n, .refl _ _, hr, .cons (.bool n) .nil, by simp [Value.oneCell'], rfl, trivial⟩⟩

theorem Bld.string {t : TypeId} (ht : P.underlying t = some .string) (hc : P.cellsOf t = 1) : Bld P t 1 (fun _ s vs => vs = [.string s]) (fun s => s.size ≤ maxLen) :=
  ⟨hc, by omega, fun _ h => h, fun h _ J M hr => by
    obtain ⟨n, rfl, _, hw⟩ := DataW.trod_string ht h
    exact ⟨J, M, _, n, .refl _ _, hr, .cons (.str n) .nil, by simp [Value.oneCell'], rfl, hw⟩⟩

/-- A new row that is only read. -/
theorem RdRel.push {J : Inj} {M : Hp} {w : World} (h : RdRel J M w) {l : Loc} {ds : Array Value} {e : TypeId} {lo hi : Nat} {o : List Value} (hb : w.heap[l.b]? = some (.cells ds e (lo, hi))) (hs : ds.size = l.sz) (hl : l.sh + o.length ≤ l.sz)
    (ho : LRel J M o ((ds.toList.drop l.sh).take o.length)) (h1 : ∀ v ∈ o, v.oneCell' = true) :
    Ext J M (fun id => if id = M.length then some l else J id) (M ++ [o]) ∧ RdRel (fun id => if id = M.length then some l else J id) (M ++ [o]) w := by
  have hx : Ext J M (fun id => if id = M.length then some l else J id) (M ++ [o]) := ⟨List.prefix_append _ _, fun id hid => by show (if id = M.length then some l else J id) = J id; rw [if_neg (by omega)]⟩
  refine ⟨hx, fun id o2 ho2 => ?_, fun id id' l2 l' hne hB hl1 hl2 => ?_, fun id hid => ?_⟩
  · have hid := (List.getElem?_eq_some_iff.1 ho2).1
    rw [List.length_append, List.length_singleton] at hid
    by_cases he : id = M.length
    · subst he
      rw [List.getElem?_append_right (Nat.le_refl _), Nat.sub_self] at ho2
      cases ho2
      refine ⟨l, ds, e, lo, hi, by simp, hb, hs, hl, fun i v hv => ⟨h1 v (List.mem_of_getElem? hv), ?_⟩, fun hB => by rw [List.length_append, List.length_singleton] at hB; omega⟩
      obtain ⟨y, hy, hr⟩ := ho.get hv
      have hi2 := (List.getElem?_eq_some_iff.1 hv).1
      refine ⟨y, ?_, hr.keep hx.keep⟩
      rw [take_drop_get, if_pos hi2, Array.getElem?_toList] at hy
      exact hy
    · rw [List.getElem?_append_left (by omega)] at ho2
      obtain ⟨l2, ds2, e2, lo2, hi2, a1, a2, a3, a4, a5, _⟩ := h.row id o2 ho2
      refine ⟨l2, ds2, e2, lo2, hi2, by show (if id = M.length then some l else J id) = some l2; rw [if_neg he]; exact a1, a2, a3, a4, fun i v hv => ?_, fun hB => by rw [List.length_append, List.length_singleton] at hB; omega⟩
      obtain ⟨b1, d, b2, b3⟩ := a5 i v hv
      exact ⟨b1, d, b2, b3.keep hx.keep⟩
  · rw [List.length_append, List.length_singleton] at hB
    have hl1 : (if id = M.length then some _ else J id) = some l2 := hl1
    rw [if_neg (by omega), h.dom id (by omega)] at hl1
    cases hl1
  · rw [List.length_append, List.length_singleton] at hid
    show (if id = M.length then some l else J id) = none
    rw [if_neg (by omega)]
    exact h.dom id (by omega)

end
end Go.Proofs.Ytdplmjlbkaipiaa.Ev

/- Lists and records that come in by a law's parameters. -/
namespace Go.Proofs.Ytdplmjlbkaipiaa.Ev
set_option linter.all false
open Go Go.ChangeShapes Go.WideShapes Go.RowKit

theorem add_add (a : Addr) (m j : Nat) : (a.add m).add j = a.add (m + j) := by
  unfold Addr.add
  by_cases hm : m = 0
  · subst hm; simp
  · by_cases hj : j = 0
    · subst hj; simp [hm]
    · simp [hm, hj, Nat.add_assoc]

theorem cell_some {w : World} {a : Addr} {k : Nat} {v : Value} (h : w.cell? (a.add k) = some v) (hs : k = 0 → a.spot = none) :
    ∃ (ds : Array Value) (e : TypeId) (lo hi : Nat), w.heap[a.block]? = some (.cells ds e (lo, hi)) ∧ ds[a.off + k]? = some v := by
  have hb : (a.add k).block = a.block := by unfold Addr.add; split <;> rfl
  have ho : (a.add k).off = a.off + k := by
    unfold Addr.add
    split
    · rename_i hk; subst hk; rfl
    · rfl
  unfold World.cell? at h
  rw [hb, ho] at h
  split at h
  · rename_i c e r hc
    split at h
    · cases h
    · exact ⟨c, e, r.1, r.2, hc, h⟩
  · cases h

theorem cell_spot {w : World} {a : Addr} {v : Value} (h : w.cell? (a.add 0) = some v) : a.spot = none := by
  have : a.add 0 = a := by simp [Addr.add]
  rw [this] at h
  unfold World.cell? at h
  split at h
  · split at h
    · cases h
    · rename_i hs
      cases hsp : a.spot with
      | none => rfl
      | some x => rw [hsp] at hs; exact absurd rfl hs
  · cases h

section
variable {P : Program}

theorem Bld.slice {α : Type} {R : Hp → α → List Value → Prop} {ok : α → Prop} {t e : TypeId} {sz : Nat} (ht : P.underlying t = some (.slice e)) (hc : P.cellsOf t = 1) (he : Bld P e sz R ok) :
    Bld P t 1 (fun M l vs => ∃ v, vs = [v] ∧ Sl (R M) sz M v l) (fun l => l.length ≤ maxLen ∧ ∀ x ∈ l, ok x) := by
  refine ⟨hc, by omega, fun {M M' z vs} hp ⟨v, h1, h2⟩ => ⟨v, h1, (h2.pre hp).frame (fun a _ cs h => he.mono hp h) fun _ _ _ _ _ _ => rfl⟩, ?_⟩
  intro H enc w base held fuel cs x h hb J M hr
  rcases DataW.trod_slice ht h with ⟨rfl, _⟩ | ⟨a, len, cap, elems, rest, n, _, rfl, _, hbase, hlc, hm, hlen, hel, hre, _⟩
  · exact ⟨J, M, _, [], .refl _ _, hr, .cons .nsl .nil, by simp [Value.oneCell'], ⟨_, rfl, .inl ⟨rfl, rfl⟩⟩, by simp⟩
  · have hpos := he.pos
    have hesz := he.cells
    have hblk : Blk w := hb a len cap (by simp)
    have hread : ∀ i, i < cap → ∃ c, w.cells? base (a.add (i * sz)) sz = some c ∧ (i < len → ∃ y, DataW.trod enc P w base (fun _ => true) held n e c = some y) := fun i hi => by
      by_cases hil : i < len
      · have h1 := hel i hil
        rw [List.getElem?_eq_getElem (by omega), hesz] at h1
        obtain ⟨c, h2, h3⟩ := Option.bind_eq_some_iff.1 h1
        exact ⟨c, h2, fun _ => ⟨_, h3⟩⟩
      · obtain ⟨h1, h2⟩ := hre rfl
        have h3 := h2 (i - len) (by omega)
        rw [List.getElem?_eq_getElem (by omega), hesz, show len + (i - len) = i by omega] at h3
        obtain ⟨c, h4, h5⟩ := Option.bind_eq_some_iff.1 h3
        exact ⟨c, h4, fun h => absurd h hil⟩
    have key : ∀ m, m ≤ len → ∃ (J' : Inj) (M' : Hp) (vs rc : List Value) (z : List α), Ext J M J' M' ∧ RdRel J' M' w ∧ LRel J' M' vs rc ∧ (∀ v ∈ vs, v.oneCell' = true) ∧ vs.length = m * sz ∧
        (∀ k, k < m * sz → w.cell? (a.add k) = rc[k]?) ∧ z.length = m ∧ ∀ i x, z[i]? = some x → R M' x ((vs.drop (i * sz)).take sz) ∧ ok x := fun m => by
      induction m with
      | zero => exact fun _ => ⟨J, M, [], [], [], .refl _ _, hr, .nil, by simp, by simp, fun k hk => by omega, rfl, fun i x hx => by simp at hx⟩
      | succ m ih =>
        intro hml
        obtain ⟨J1, M1, vs1, rc1, z1, e1, r1, l1, o1, n1, c1, zl1, zr1⟩ := ih (by omega)
        obtain ⟨c, hc1, hc2⟩ := hread m (by omega)
        obtain ⟨y, hy⟩ := hc2 (by omega)
        obtain ⟨_, hcl, hcell⟩ := World.cells?_some hc1
        obtain ⟨J2, M2, vs2, z2, e2, r2, l2, o2, p2, k2⟩ := he.bld hy (fun _ _ _ _ => hblk) J1 M1 r1
        have hv2 : vs2.length = sz := by rw [l2.1, hcl]
        refine ⟨J2, M2, vs1 ++ vs2, rc1 ++ c, z1 ++ [z2], e1.trans e2, r2, (l1.keep e2.keep).append l2, fun v hv => ?_, by rw [List.length_append, n1, hv2, Nat.succ_mul], fun k hk => ?_, by simp [zl1], fun i x hx => ?_⟩
        · rcases List.mem_append.1 hv with h | h
          · exact o1 v h
          · exact o2 v h
        · have hrc : rc1.length = m * sz := by rw [← l1.1, n1]
          by_cases hkm : k < m * sz
          · rw [List.getElem?_append_left (by omega)]
            exact c1 k hkm
          · rw [Nat.succ_mul] at hk
            rw [List.getElem?_append_right (by omega), hrc, ← hcell (k - m * sz) (by omega), add_add, show m * sz + (k - m * sz) = k by omega]
        · by_cases hi : i < m
          · rw [List.getElem?_append_left (by omega)] at hx
            obtain ⟨q1, q2⟩ := zr1 i x hx
            refine ⟨?_, q2⟩
            have hle : (i + 1) * sz ≤ m * sz := Nat.mul_le_mul_right _ hi
            rw [Nat.succ_mul] at hle
            rw [List.drop_append_of_le_length (by omega), List.take_append_of_le_length (by rw [List.length_drop]; omega)]
            exact he.mono e2.1 q1
          · have hil := (List.getElem?_eq_some_iff.1 hx).1
            rw [List.length_append, List.length_singleton] at hil
            have him : i = m := by omega
            subst him
            rw [List.getElem?_append_right (by omega), zl1, Nat.sub_self] at hx
            cases hx
            refine ⟨?_, k2⟩
            rw [List.drop_append_of_le_length (by omega), List.drop_of_length_le (by omega), List.nil_append, List.take_of_length_le (by omega)]
            exact p2
    obtain ⟨J1, M1, vs, rc, z, e1, r1, l1, o1, n1, c1, zl, zr⟩ := key len (Nat.le_refl _)
    have fin : ∀ (l : Loc) (ds : Array Value) (e' : TypeId) (lo hi : Nat), w.heap[l.b]? = some (.cells ds e' (lo, hi)) → ds.size = l.sz → l.sh + vs.length ≤ l.sz → LRel J1 M1 vs ((ds.toList.drop l.sh).take vs.length) →
        ((len = 0 ∧ cap = 0) ∨ (a = ⟨l.b, l.sh + 0, none⟩ ∧ l.sh + 0 + cap * sz ≤ l.sz)) →
        ∃ (J' : Inj) (M' : Hp) (vs : List Value) (z : List α), Ext J M J' M' ∧ RdRel J' M' w ∧ LRel J' M' vs [.slice (some a) len cap] ∧ (∀ v ∈ vs, v.oneCell' = true) ∧ (∃ v, vs = [v] ∧ Sl (R M') sz M' v z) ∧ (z.length ≤ maxLen ∧ ∀ x ∈ z, ok x) := fun l ds e' lo hi h1 h2 h3 h4 h5 => by
      obtain ⟨x1, x2⟩ := r1.push h1 h2 h3 h4 o1
      refine ⟨_, _, [.slice (some ⟨M1.length, 0, some sz⟩) len (len * sz)], z, e1.trans x1, x2, .cons (.sl _ _ _ _ _ vs a cap (by simp) (by omega) hlc (Nat.mul_le_mul_right _ hlc) fun _ => ⟨l, by simp, h5⟩) .nil, by simp [Value.oneCell'], ⟨_, rfl, ?_⟩, by omega, fun y hy => ?_⟩
      · refine .inr ⟨M1.length, 0, len * sz, vs, by rw [zl], by simp, by omega, by rw [zl]; omega, by unfold maxLen at hm; omega, fun i y hy => ?_⟩
        rw [Nat.zero_add]
        exact he.mono x1.1 (zr i y hy).1
      · obtain ⟨i, hi⟩ := List.getElem?_of_mem hy
        exact (zr i y hi).2
    by_cases hcap : cap = 0
    · have hl0 : len = 0 := by omega
      obtain ⟨b, ds, e', lo, hi, hbk⟩ := hblk
      have hv0 : vs = [] := List.eq_nil_of_length_eq_zero (by rw [n1, hl0]; omega)
      refine fin ⟨b, 0, ds.size⟩ ds e' lo hi hbk rfl (by rw [hv0]; simp) ?_ (.inl ⟨hl0, hcap⟩)
      rw [hv0]
      exact ⟨by simp, fun i x y hx => by simp at hx⟩
    · obtain ⟨c0, hc0, _⟩ := hread 0 (by omega)
      obtain ⟨_, hcl0, hcell0⟩ := World.cells?_some hc0
      have q0 := hcell0 0 hpos
      rw [add_add, Nat.zero_mul, Nat.zero_add, List.getElem?_eq_getElem (by omega)] at q0
      have hspot := cell_spot q0
      obtain ⟨ds, e', lo, hi, hbk, _⟩ := cell_some q0 fun _ => hspot
      have hcells : ∀ k v, w.cell? (a.add k) = some v → ds[a.off + k]? = some v := fun k v hv => by
        obtain ⟨ds2, e2, lo2, hi2, hb2, hd2⟩ := cell_some hv fun _ => hspot
        rw [hbk] at hb2
        cases hb2
        exact hd2
      obtain ⟨c9, hc9, _⟩ := hread (cap - 1) (by omega)
      obtain ⟨_, hcl9, hcell9⟩ := World.cells?_some hc9
      have q9 := hcell9 (sz - 1) (by omega)
      rw [add_add, List.getElem?_eq_getElem (by omega)] at q9
      have hsz9 := (Array.getElem?_eq_some_iff.1 (hcells _ _ q9)).1
      have hmul : (cap - 1) * sz + sz = cap * sz := by
        rw [← Nat.succ_mul]
        congr 1
        omega
      have hlm : len * sz ≤ cap * sz := Nat.mul_le_mul_right _ hlc
      refine fin ⟨a.block, a.off, ds.size⟩ ds e' lo hi hbk rfl (by simp only; omega) ⟨?_, fun i x y hx hy => ?_⟩ (.inr ⟨?_, by simp only; omega⟩)
      · rw [List.length_take, List.length_drop, Array.length_toList]
        show vs.length = min vs.length (ds.size - a.off)
        omega
      · have hi2 := (List.getElem?_eq_some_iff.1 hx).1
        obtain ⟨y2, hy2, hr2⟩ := l1.get hx
        have := c1 i (by omega)
        rw [hy2] at this
        have h3 := hcells _ _ this
        rw [take_drop_get, if_pos hi2, Array.getElem?_toList, h3] at hy
        cases hy
        exact hr2
      · cases a
        simp only at hspot
        subst hspot
        rfl

/-- Fields in line, from an offset on. -/
structure SeqB {α : Type} (P : Program) (sz : Nat) (R : Hp → α → List Value → Prop) (ok : α → Prop) (fs : List (TypeId × Nat)) (off : Nat) : Prop where
  pos : 0 < sz
  mono : ∀ {M M' : Hp} {z : α} {vs : List Value}, M <+: M' → R M z vs → R M' z vs
  bld : ∀ {H : Type} {enc : TypeId × Value → H} {w : World} {base : Nat} {held : Bool} {fuel : Nat} {cs : List Value}, cs.length = off + sz →
    (∀ f, f ∈ fs → ∃ y, DataW.trod enc P w base (fun _ => true) held fuel f.1 ((cs.drop f.2).take (P.cellsOf f.1)) = some y) → (∀ a l c, .slice (some a) l c ∈ cs → Blk w) → ∀ (J : Inj) (M : Hp), RdRel J M w →
    ∃ (J' : Inj) (M' : Hp) (vs : List Value) (z : α), Ext J M J' M' ∧ RdRel J' M' w ∧ LRel J' M' vs (cs.drop off) ∧ (∀ v ∈ vs, v.oneCell' = true) ∧ R M' z vs ∧ ok z

theorem SeqB.one {α : Type} {R : Hp → α → List Value → Prop} {ok : α → Prop} {t : TypeId} {sz off : Nat} (h : Bld P t sz R ok) : SeqB P sz R ok [(t, off)] off :=
  ⟨h.pos, h.mono, fun {H enc w base held fuel cs} hl hf hb J M hr => by
    obtain ⟨y, hy⟩ := hf (t, off) (by simp)
    have e : (cs.drop off).take (P.cellsOf t) = cs.drop off := List.take_of_length_le (by rw [List.length_drop, h.cells]; omega)
    simp only [e] at hy
    exact h.bld hy (fun a l c hm => hb a l c (List.mem_of_mem_drop hm)) J M hr⟩

theorem SeqB.cons {α β : Type} {R1 : Hp → α → List Value → Prop} {R2 : Hp → β → List Value → Prop} {ok1 : α → Prop} {ok2 : β → Prop} {t : TypeId} {s1 s2 off off' : Nat} {fs : List (TypeId × Nat)} (h : Bld P t s1 R1 ok1) (ho : off' = off + s1) (hs : SeqB P s2 R2 ok2 fs off') :
    SeqB P (s1 + s2) (fun M (x : α × β) vs => ∃ u v, vs = u ++ v ∧ R1 M x.1 u ∧ R2 M x.2 v) (fun x => ok1 x.1 ∧ ok2 x.2) ((t, off) :: fs) off := by
  refine ⟨by have := h.pos; omega, fun {M M' z vs} hp ⟨u, v, e, a, b⟩ => ⟨u, v, e, h.mono hp a, hs.mono hp b⟩, ?_⟩
  intro H enc w base held fuel cs hl hf hb J M hr
  obtain ⟨y, hy⟩ := hf (t, off) (by simp)
  have hl' : cs.length = off + (s1 + s2) := hl
  obtain ⟨J1, M1, vs1, z1, e1, r1, l1, o1, p1, k1⟩ := h.bld hy (fun a l c hm => hb a l c (List.mem_of_mem_drop (List.mem_of_mem_take hm))) J M hr
  obtain ⟨J2, M2, vs2, z2, e2, r2, l2, o2, p2, k2⟩ := hs.bld (by rw [ho]; omega) (fun f hff => hf f (List.mem_cons_of_mem _ hff)) hb J1 M1 r1
  refine ⟨J2, M2, vs1 ++ vs2, (z1, z2), e1.trans e2, r2, ?_, fun v hv => ?_, ⟨vs1, vs2, rfl, h.mono e2.1 p1, p2⟩, k1, k2⟩
  · have := (l1.keep e2.keep).append l2
    rw [h.cells, ho, ← List.drop_drop, List.take_append_drop] at this
    exact this
  · rcases List.mem_append.1 hv with hm | hm
    · exact o1 v hm
    · exact o2 v hm

theorem Bld.struct {α : Type} {R : Hp → α → List Value → Prop} {ok : α → Prop} {t : TypeId} {sz : Nat} {fs : Array Field} (ht : P.underlying t = some (.struct fs)) (hc : P.cellsOf t = sz) (hs : SeqB P sz R ok (fs.toList.map fun f => (f.type, f.offset)) 0) : Bld P t sz R ok := by
  refine ⟨hc, hs.pos, hs.mono, fun {H enc w base held fuel cs x} h hb J M hr => ?_⟩
  obtain ⟨xs, n, _, _, hl, hxl, hx⟩ := DataW.trod_struct ht h
  have := hs.bld (enc := enc) (w := w) (base := base) (held := held) (fuel := n) (cs := cs) (by rw [hl, hc]; omega) (fun y hy => by
    obtain ⟨fl, hfl, rfl⟩ := List.mem_map.1 hy
    obtain ⟨i, hi⟩ := List.getElem?_of_mem hfl
    have hi' : fs[i]? = some fl := by rw [← hi]; simp
    have := hx i fl hi'
    have hlt : i < xs.length := by
      have := (List.getElem?_eq_some_iff.1 hi).1
      simp at this
      omega
    rw [List.getElem?_eq_getElem hlt] at this
    exact ⟨_, this⟩) hb J M hr
  simpa using this

theorem Bld.conv {α β : Type} {R : Hp → α → List Value → Prop} {R' : Hp → β → List Value → Prop} {ok : α → Prop} {ok' : β → Prop} {t : TypeId} {sz : Nat} (h : Bld P t sz R ok) (f : α → β) (hR : ∀ M z vs, R M z vs → R' M (f z) vs) (hm : ∀ {M M' : Hp} {z : β} {vs : List Value}, M <+: M' → R' M z vs → R' M' z vs) (hk : ∀ z, ok z → ok' (f z)) : Bld P t sz R' ok' :=
  ⟨h.cells, h.pos, hm, fun ht hb J M hr => by
    obtain ⟨J', M', vs, z, a1, a2, a3, a4, a5, a6⟩ := h.bld ht hb J M hr
    exact ⟨J', M', vs, f z, a1, a2, a3, a4, hR _ _ _ a5, hk _ a6⟩⟩

end
end Go.Proofs.Ytdplmjlbkaipiaa.Ev

/- A law's parameters, one by one, and the whole of it. -/
namespace Go.Proofs.Ytdplmjlbkaipiaa.Ev
set_option linter.all false
open Go Go.ChangeShapes Go.WideShapes Go.RowKit

structure ArgB {α : Type} (P : Program) (t : TypeId) (V : Hp → α → Value → Prop) (ok : α → Prop) : Prop where
  mono : ∀ {M M' : Hp} {z : α} {v : Value}, M <+: M' → V M z v → V M' z v
  arg : ∀ {H : Type} {enc : TypeId × Value → H} {w : World} {v : Value} {D : DataW H} {ps : List MemPlace} {base : Nat}, DataW.Trod enc P w 0 (fun _ => true) true t v D ps → Value.okWide P w .any base t v → ∀ (J : Inj) (M : Hp), RdRel J M w →
    ∃ (J' : Inj) (M' : Hp) (u : Value) (z : α), Ext J M J' M' ∧ RdRel J' M' w ∧ VRel J' M' u v ∧ V M' z u ∧ ok z

section
variable {P : Program}

theorem blk_of_shape {w : World} {r : Nat} {x : TypeId × Nat} (h : w.shape? r = some x) : Blk w := by
  unfold World.shape? at h
  split at h
  · rename_i c e q hc
    exact ⟨r, c, e, q.1, q.2, hc⟩
  · cases h

theorem cell_blk {w : World} {r : Reach} {base : Nat} {t : TypeId} {a : Addr} {l c : Nat} (h : Cell.okWide P w r base t (.slice (some a) l c)) : Blk w := by
  unfold Cell.okWide at h
  have h2 : Cell.ok P w r base t (.slice (some a) l c) := by
    revert h
    cases P.underlying t with
    | none => exact fun h => h
    | some d => cases d <;> exact fun h => h
  unfold Cell.ok at h2
  revert h2
  cases P.underlying t with
  | none => exact fun h => h.elim
  | some d => cases d <;> first | exact fun h => h.elim | exact fun h => by obtain ⟨_, _, _, _, row, cells, hs, _⟩ := h; exact blk_of_shape hs

theorem ArgB.one {α : Type} {R : Hp → α → List Value → Prop} {ok : α → Prop} {t : TypeId} (h : Bld P t 1 R ok) (hk : ∀ {w : World} {r : Reach} {base : Nat} {v : Value}, Value.okWide P w r base t v → v.cells = #[v] ∧ Cell.okWide P w r base t v) :
    ArgB P t (fun M z v => R M z [v]) ok :=
  ⟨h.mono, fun {H enc w v D ps base} hT hv J M hr => by
    obtain ⟨fuel, hf⟩ := hT
    obtain ⟨hc, hcell⟩ := hk hv
    rw [hc] at hf
    obtain ⟨J', M', vs, z, a1, a2, a3, a4, a5, a6⟩ := h.bld hf (fun a l c hm => by
      have h9 : Value.slice (some a) l c = v := by simpa using hm
      rw [← h9] at hcell
      exact cell_blk hcell) J M hr
    obtain ⟨u, rfl⟩ : ∃ u, vs = [u] := by
      have := a3.1
      cases vs with
      | nil => simp at this
      | cons y l => cases l with
        | nil => exact ⟨y, rfl⟩
        | cons z l => simp at this
    exact ⟨J', M', u, z, a1, a2, a3.2 0 u v rfl rfl, a5, a6⟩⟩

theorem ArgB.slice {α : Type} {R : Hp → α → List Value → Prop} {ok : α → Prop} {t e : TypeId} {sz : Nat} (ht : P.underlying t = some (.slice e)) (hc : P.cellsOf t = 1) (he : Bld P e sz R ok) :
    ArgB P t (fun M l v => Sl (R M) sz M v l) (fun l => l.length ≤ maxLen ∧ ∀ x ∈ l, ok x) := by
  have h := ArgB.one (Bld.slice ht hc he) (fun {w r base v} hv => by
    obtain ⟨a, len, cap, rfl⟩ := okWide_slice ht hv
    exact ⟨rfl, by unfold Value.okWide at hv; rw [ht] at hv; exact hv⟩)
  exact ⟨fun hp hs => by
    obtain ⟨v, e, h2⟩ := h.mono hp ⟨_, rfl, hs⟩
    cases e
    exact h2, fun hT hv J M hr => by
    obtain ⟨J', M', u, z, a1, a2, a3, ⟨v, e, h2⟩, a5⟩ := h.arg hT hv J M hr
    cases e
    exact ⟨J', M', u, z, a1, a2, a3, h2, a5⟩⟩

theorem ArgB.int {k : IntKind} {t : TypeId} (ht : P.underlying t = some (.int k)) (hc : P.cellsOf t = 1) : ArgB P t (fun _ n v => v = .int k n) (fun n => (Lit.int k n).wf = true) := by
  have h := ArgB.one (Bld.int ht hc) (fun {w r base v} hv => by
    obtain ⟨n, rfl⟩ := okWide_int ht hv
    exact ⟨rfl, by unfold Value.okWide at hv; rw [ht] at hv; exact hv⟩)
  exact ⟨fun _ h => h, fun hT hv J M hr => by
    obtain ⟨J', M', u, z, a1, a2, a3, a4, a5⟩ := h.arg hT hv J M hr
    exact ⟨J', M', u, z, a1, a2, a3, by simpa using a4, a5⟩⟩

theorem ArgB.bool {t : TypeId} (ht : P.underlying t = some .bool) (hc : P.cellsOf t = 1) : ArgB P t (fun _ b v => v = .bool b) (fun _ => True) := by
  have h := ArgB.one (Bld.bool ht hc) (fun {w r base v} hv => by
    obtain ⟨n, rfl⟩ := okWide_bool ht hv
    exact ⟨rfl, by unfold Value.okWide at hv; rw [ht] at hv; exact hv⟩)
  exact ⟨fun _ h => h, fun hT hv J M hr => by
    obtain ⟨J', M', u, z, a1, a2, a3, a4, a5⟩ := h.arg hT hv J M hr
    exact ⟨J', M', u, z, a1, a2, a3, by simpa using a4, a5⟩⟩

theorem ArgB.string {t : TypeId} (ht : P.underlying t = some .string) (hc : P.cellsOf t = 1) : ArgB P t (fun _ s v => v = .string s) (fun s => s.size ≤ maxLen) := by
  have h := ArgB.one (Bld.string ht hc) (fun {w r base v} hv => by
    obtain ⟨n, rfl⟩ := okWide_string ht hv
    exact ⟨rfl, by unfold Value.okWide at hv; rw [ht] at hv; exact hv⟩)
  exact ⟨fun _ h => h, fun hT hv J M hr => by
    obtain ⟨J', M', u, z, a1, a2, a3, a4, a5⟩ := h.arg hT hv J M hr
    exact ⟨J', M', u, z, a1, a2, a3, by simpa using a4, a5⟩⟩

theorem ArgB.struct {α : Type} {R : Hp → α → List Value → Prop} {ok : α → Prop} {t : TypeId} {sz : Nat} {fs : Array Field} (ht : P.underlying t = some (.struct fs)) (h : Bld P t sz R ok) :
    ArgB P t (fun M z v => ∃ vs, v = .agg vs ∧ R M z vs.toList) ok :=
  ⟨fun hp ⟨vs, e, hR⟩ => ⟨vs, e, h.mono hp hR⟩, fun {H enc w v D ps base} hT hv J M hr => by
    obtain ⟨fuel, hf⟩ := hT
    have hv2 := hv
    unfold Value.okWide at hv2
    rw [ht] at hv2
    obtain ⟨cs, rfl, hsz, ts, _, _, hcs⟩ := hv2
    obtain ⟨J', M', vs, z, a1, a2, a3, a4, a5, a6⟩ := h.bld hf (fun a l c hm => by
      obtain ⟨i, hi⟩ := List.getElem?_of_mem hm
      obtain ⟨u, _, hok⟩ := hcs i _ (by simpa [Value.cells] using hi)
      exact cell_blk hok) J M hr
    refine ⟨J', M', .agg vs.toArray, z, a1, a2, ?_, ⟨vs.toArray, rfl, a5⟩, a6⟩
    have hl := a3.1
    refine .agg _ _ (by simpa [Value.cells] using hl) (fun i x hx => a4 x (List.mem_of_getElem? (by simpa using hx))) fun i x y hx hy => a3.2 i x y (by simpa using hx) (by simpa [Value.cells] using hy)⟩

end
end Go.Proofs.Ytdplmjlbkaipiaa.Ev

/- Growing a slice of one's own. -/
namespace Go.Proofs.Ytdplmjlbkaipiaa.Ev
set_option linter.all false
open Go

section
variable {m : Md} {α : Type} {R : α → List Value → Prop} {esz : Nat} {H : Hp} {v : Value} {l : List α}

theorem Sl.app {N n bytes : Nat} {l2 : List α} {cs : List Value} (h : Sl R esz H v l) (ho : OwnS N v) (hN : N ≤ H.length) (hw : ∀ id, N ≤ id → m.wr id = true) (hnr : m.nr = true → cs.all scal = true) (hpos : 0 < l2.length) (hcs : cs.length = l2.length * esz)
    (hr : ∀ (i : Nat) a, l2[i]? = some a → R a ((cs.drop (i * esz)).take esz)) (hb : (l.length + l2.length) * bytes ≤ Ev.room) (hb2 : l.length + l2.length ≤ Ev.room) :
    ∃ v' H', (∀ (s : St) (x y : X), s.H = H → exv s.ρ x = some v → srcOf H esz (ex s.ρ y) = some (l2.length, cs) → appK m s esz bytes x y = some (.val v', { s with H := H' })) ∧ Sl R esz H' v' (l ++ l2) ∧ OwnS N v' ∧
      (∀ j, j < H.length → j ∉ idsOf v → H'[j]? = H[j]?) ∧ H.length ≤ H'.length ∧ (∀ j ∈ idsOf v', j ∈ idsOf v ∨ H.length ≤ j) ∧ ∀ H0 : Hp, H0.length ≤ N → H0 <+: H → H0 <+: H' := by
  have hb3 : l.length + l2.length ≤ 9223372036854775807 := by unfold Ev.room at hb2; omega
  rcases ho with rfl | ⟨id, e, ln, cap, rfl, hid⟩
  · have hl : l = [] := by
      rcases h with ⟨_, h⟩ | ⟨_, _, _, _, h, _⟩
      · exact h
      · cases h
    subst hl
    simp only [List.length_nil, Nat.zero_add] at hb hb2 hb3
    refine ⟨.slice (some ⟨H.length, 0, some esz⟩) l2.length (l2.length * esz), H ++ [cs], fun s x y hH hx hy => ?_, .inr ⟨H.length, 0, l2.length * esz, cs, by simp, by simp, by omega, by simp, by simpa using hb3, fun i a hi => ?_⟩,
      .inr ⟨_, _, _, _, rfl, hN⟩, fun j hj _ => by rw [List.getElem?_append_left hj], by simp, fun j hj => ?_, fun H0 _ hp => pre_push hp⟩
    · unfold appK
      rw [hx, hH, hy]
      simp only
      rw [if_neg (by omega), if_pos ⟨hb, hb2⟩]
    · rw [Nat.zero_add]
      exact hr i a (by simpa using hi)
    · simp [idsOf] at hj
      exact .inr (by omega)
  · rcases h with ⟨h, _⟩ | ⟨id', off, cap', o, h, hg, hoc, hlc, hroom, hrr⟩
    · cases h
    cases h
    have hidl := (List.getElem?_eq_some_iff.1 hg).1
    have hwid := hw id hid
    have hold : ∀ (q : List Value), (∀ k, k < l.length * esz → q[k]? = o[k]?) → ∀ (i : Nat) a, l[i]? = some a → R a ((q.drop (0 + i * esz)).take esz) := fun q hq i a hi => by
      have hil := (List.getElem?_eq_some_iff.1 hi).1
      have hm : (i + 1) * esz ≤ l.length * esz := Nat.mul_le_mul_right _ hil
      rw [Nat.succ_mul] at hm
      have : (q.drop (0 + i * esz)).take esz = (o.drop (0 + i * esz)).take esz := by
        refine List.ext_getElem? fun k => ?_
        rw [take_drop_get, take_drop_get]
        by_cases hk : k < esz
        · rw [if_pos hk, if_pos hk, hq _ (by omega)]
        · rw [if_neg hk, if_neg hk]
      rw [this]
      exact hrr i a hi
    have hnew : ∀ (q : List Value), (∀ k, k < cs.length → q[l.length * esz + k]? = cs[k]?) → ∀ (i : Nat) a, l2[i]? = some a → R a ((q.drop (0 + (l.length + i) * esz)).take esz) := fun q hq i a hi => by
      have hil := (List.getElem?_eq_some_iff.1 hi).1
      have hm : (i + 1) * esz ≤ l2.length * esz := Nat.mul_le_mul_right _ hil
      rw [Nat.succ_mul] at hm
      have : (q.drop (0 + (l.length + i) * esz)).take esz = (cs.drop (i * esz)).take esz := by
        refine List.ext_getElem? fun k => ?_
        rw [take_drop_get, take_drop_get]
        by_cases hk : k < esz
        · rw [if_pos hk, if_pos hk, Nat.zero_add, Nat.add_mul, Nat.add_assoc, hq _ (by omega)]
        · rw [if_neg hk, if_neg hk]
      rw [this]
      exact hr i a hi
    have both : ∀ (q : List Value), (∀ k, k < l.length * esz → q[k]? = o[k]?) → (∀ k, k < cs.length → q[l.length * esz + k]? = cs[k]?) → ∀ (i : Nat) a, (l ++ l2)[i]? = some a → R a ((q.drop (0 + i * esz)).take esz) := fun q h1 h2 i a hi => by
      by_cases hil : i < l.length
      · rw [List.getElem?_append_left hil] at hi
        exact hold q h1 i a hi
      · rw [List.getElem?_append_right (by omega)] at hi
        have := hnew q h2 _ a hi
        rw [show l.length + (i - l.length) = i by omega] at this
        exact this
    by_cases hfit : (l.length + l2.length) * esz ≤ cap
    · have hfit' : l.length * esz + cs.length ≤ cap := by rw [hcs, ← Nat.add_mul]; exact hfit
      refine ⟨.slice (some ⟨id, 0, some esz⟩) (l.length + l2.length) cap, H.set id (spl o (0 + l.length * esz) cs), fun s x y hH hx hy => ?_, .inr ⟨id, 0, cap, _, by rw [List.length_append], by rw [List.getElem?_set_self hidl], by rw [spl_length]; exact hoc, by rw [List.length_append]; exact hfit, by rw [List.length_append]; exact hb3,
        both _ (fun k hk => ?_) (fun k hk => ?_)⟩, .inr ⟨_, _, _, _, rfl, hid⟩, fun j hj hne => ?_, by simp, fun j hj => .inl hj, fun H0 h0 hp => pre_set hp (by omega)⟩
      · unfold appK
        rw [hx, hH, hy]
        simp only
        rw [if_neg (by omega), hg]
        simp only
        rw [if_pos ⟨trivial, hoc, hwid, hnr⟩, if_pos hfit]
      · rw [spl_get, if_neg (by omega)]
      · rw [spl_get, if_pos (by omega), if_pos (by omega)]
        congr 1
        omega
      · rw [List.getElem?_set_ne]
        simp [idsOf] at hne
        omega
    · have htl : (o.take (l.length * esz)).length = l.length * esz := by rw [List.length_take]; omega
      refine ⟨.slice (some ⟨id, 0, some esz⟩) (l.length + l2.length) ((l.length + l2.length) * esz), H.set id (o.take (l.length * esz) ++ cs), fun s x y hH hx hy => ?_, .inr ⟨id, 0, _, _, by rw [List.length_append], by rw [List.getElem?_set_self hidl], by rw [List.length_append, htl, hcs, ← Nat.add_mul, Nat.zero_add], by rw [List.length_append]; exact Nat.le_refl _, by rw [List.length_append]; exact hb3,
        both _ (fun k hk => ?_) (fun k hk => ?_)⟩, .inr ⟨_, _, _, _, rfl, hid⟩, fun j hj hne => ?_, by simp, fun j hj => .inl hj, fun H0 h0 hp => pre_set hp (by omega)⟩
      · unfold appK
        rw [hx, hH, hy]
        simp only
        rw [if_neg (by omega), hg]
        simp only
        rw [if_pos ⟨trivial, hoc, hwid, hnr⟩, if_neg hfit, if_pos ⟨trivial, by omega, hb, hb2⟩]
      · rw [List.getElem?_append_left (by omega), List.getElem?_take, if_pos hk]
      · rw [List.getElem?_append_right (by omega), htl, show l.length * esz + k - l.length * esz = k by omega]
      · rw [List.getElem?_set_ne]
        simp [idsOf] at hne
        omega

theorem Sl.src (h : Sl R esz H v l) : ∃ cs, srcOf H esz (.val v) = some (l.length, cs) ∧ cs.length = l.length * esz ∧ ∀ (i : Nat) a, l[i]? = some a → R a ((cs.drop (i * esz)).take esz) := by
  rcases h with ⟨rfl, rfl⟩ | ⟨id, off, cap, o, rfl, hg, hoc, hlc, hroom, hrr⟩
  · exact ⟨[], rfl, by simp, fun i a hi => by simp at hi⟩
  · refine ⟨(o.drop off).take (l.length * esz), ?_, by rw [List.length_take, List.length_drop]; omega, fun i a hi => ?_⟩
    · simp only [srcOf, rowOf, hg]
      rw [if_pos hoc]
      simp only
      rw [if_pos ⟨trivial, by omega⟩]
    · have hil := (List.getElem?_eq_some_iff.1 hi).1
      have hm : (i + 1) * esz ≤ l.length * esz := Nat.mul_le_mul_right _ hil
      rw [Nat.succ_mul] at hm
      have : (((o.drop off).take (l.length * esz)).drop (i * esz)).take esz = (o.drop (off + i * esz)).take esz := by
        refine List.ext_getElem? fun k => ?_
        rw [take_drop_get ((o.drop off).take (l.length * esz)) (i * esz) esz k, take_drop_get o (off + i * esz) esz k]
        by_cases hk : k < esz
        · rw [if_pos hk, if_pos hk, take_drop_get, if_pos (by omega), Nat.add_assoc]
        · rw [if_neg hk, if_neg hk]
      rw [this]
      exact hrr i a hi

theorem Sl.copy {bytes : Nat} (h : Sl R esz H v l) (hb : l.length * bytes ≤ Ev.room) (hb2 : l.length ≤ Ev.room) :
    ∃ v' H', (∀ (s : St) (x y : X), s.H = H → exv s.ρ x = some (.slice none 0 0) → ex s.ρ y = .val v → appK m s esz bytes x y = some (.val v', { s with H := H' })) ∧ H <+: H' ∧ Sl R esz H' v' l ∧ OwnS H.length v' := by
  obtain ⟨cs, h1, h2, h3⟩ := h.src
  by_cases h0 : l.length = 0
  · have hl : l = [] := List.eq_nil_of_length_eq_zero h0
    subst hl
    refine ⟨.slice none 0 0, H, fun s x y hH hx hy => ?_, List.prefix_refl _, .inl ⟨rfl, rfl⟩, .inl rfl⟩
    subst hH
    unfold appK
    rw [hx, hy, h1]
    rfl
  · refine ⟨.slice (some ⟨H.length, 0, some esz⟩) l.length (l.length * esz), H ++ [cs], fun s x y hH hx hy => ?_, List.prefix_append _ _, .inr ⟨H.length, 0, l.length * esz, cs, rfl, by simp, by omega, Nat.le_refl _, by unfold Ev.room at hb2; omega, fun i a hi => ?_⟩, .inr ⟨_, _, _, _, rfl, Nat.le_refl _⟩⟩
    · unfold appK
      rw [hx, hH, hy, h1]
      simp only
      rw [if_neg h0, if_pos ⟨hb, hb2⟩]
    · rw [Nat.zero_add]
      exact h3 i a hi

end
end Go.Proofs.Ytdplmjlbkaipiaa.Ev

/- slices.Sort of whole numbers, by its contract off the kit's shelf. -/
namespace Go.Proofs.Ytdplmjlbkaipiaa.Ev
set_option linter.all false
open Go

def isI : Value → Bool
  | .int .i64 _ => true
  | _ => false
def toI : Value → Int
  | .int _ n => n
  | _ => 0
theorem isI_eq {v : Value} (h : isI v = true) : v = .int .i64 (toI v) := by
  unfold isI at h
  split at h
  · rfl
  · cases h

def srt (l : List Int) : List Int := l.mergeSort fun x y => decide (x ≤ y)

def sortP (m : Md) (vs : List Value) (H : Hp) : Option (Value × Hp) :=
  match vs with
  | [.slice none 0 0] => some (.tuple #[], H)
  | [.slice (some ⟨id, off, some 1⟩) len cap] =>
    match H[id]? with
    | some o => if off + cap = o.length ∧ len ≤ cap ∧ m.wr id = true ∧ len < 4611686018427387904 ∧ ((o.drop off).take len).all isI = true then
        some (.tuple #[], H.set id (spl o off ((srt (((o.drop off).take len).map toI)).map (Value.int .i64)))) else none
    | none => none
  | _ => none

/-- What the shelf says of it. -/
structure SortOk (P : Program) (F : Nat) : Prop where
  fn : ∃ fn, P.funcs[F]? = some fn ∧ fn.body.isSome = true ∧ (fn.name == "runtime.NumGoroutine") = false
  run : ∀ (blk off cap : Nat) (zs : List Int) (w : World), Sort.Holds (Value.int .i64) w blk off zs.toArray → blk < w.heap.size → zs.length < 4611686018427387904 →
    Calls P F #[.slice (some ⟨blk, off, none⟩) zs.length cap] w fun e w' => e = .returned (.tuple #[]) ∧ ∃ n os, w' = Sort.grow (Sort.putRow (Value.int .i64) (Sort.ahead w n) blk off (zs.mergeSort fun x y => decide (x ≤ y)).toArray) os
  non : ∀ (p : Option Addr) (cap : Nat) (w : World), Calls P F #[.slice p 0 cap] w fun e w' => e = .returned (.tuple #[]) ∧ w' = w

theorem sortP_kp {m : Md} {vs : List Value} {H H' : Hp} {r : Value} (h : sortP m vs H = some (r, H')) : Kp m H H' := by
  unfold sortP at h
  split at h
  · cases h; exact Kp.refl _ _
  · split at h
    · rename_i id off len cap _ o ho
      split at h
      · rename_i hc
        cases h
        refine ⟨by simp, fun id' h1 h2 => ?_, fun _ id' o' hl ho' => ?_⟩
        · have : id ≠ id' := fun e => by subst e; rw [hc.2.2.1] at h1; cases h1
          rw [List.getElem?_set_ne this]
        · by_cases e : id = id'
          · subst e
            rw [List.getElem?_set_self hl] at ho'
            cases ho'
            refine ⟨o, ho, fun v hv => ?_⟩
            obtain ⟨j, hj⟩ := List.getElem?_of_mem hv
            rw [spl_get] at hj
            split at hj
            · split at hj
              · have := List.mem_of_getElem? hj
                obtain ⟨n, _, rfl⟩ := List.mem_map.1 this
                exact .inl rfl
              · cases hj
            · exact .inr (List.mem_of_getElem? hj)
          · rw [List.getElem?_set_ne e] at ho'
            exact ⟨o', ho', fun v hv => .inr hv⟩
      · cases h
    · cases h
  · cases h

theorem putRow_heap {w : World} {os : Array Obj} {n blk off : Nat} {a : Array Int} {ds : Array Value} {e : TypeId} {fr : Nat × Nat} (hb : w.heap[blk]? = some (.cells ds e fr)) :
    (Sort.grow (Sort.putRow (Value.int .i64) (Sort.ahead w n) blk off a) os).heap[blk]? = some (.cells (Sort.putCells (Value.int .i64) off a ds) e fr) := by
  have hl : blk < w.heap.size := (Array.getElem?_eq_some_iff.1 hb).1
  rw [Sort.heap_grow_old _ _ (by simpa [Sort.putRow, Sort.mapBlock, Sort.ahead] using hl)]
  simp only [Sort.putRow, Sort.mapBlock, Sort.ahead, Array.getElem?_modify, if_true, hb, Option.map_some, Sort.onCells]
theorem putRow_old {w : World} {os : Array Obj} {n blk off b : Nat} {a : Array Int} (hl : b < w.heap.size) (hb : blk ≠ b) :
    (Sort.grow (Sort.putRow (Value.int .i64) (Sort.ahead w n) blk off a) os).heap[b]? = w.heap[b]? := by
  rw [Sort.heap_grow_old _ _ (by simpa [Sort.putRow, Sort.mapBlock, Sort.ahead] using hl)]
  simp only [Sort.putRow, Sort.mapBlock, Sort.ahead, Array.getElem?_modify, if_neg hb]

theorem sortP_sound {P : Program} {B F : Nat} (hS : SortOk P F) {m : Md} {vs : List Value} {H H' : Hp} {r : Value} (h : sortP m vs H = some (r, H')) (hm : ∀ id, m.wr id = true → B ≤ id) {J : Inj} {w : World} {cs : Array Value} (hw : WRel B J H w) (hl : LRel J H vs cs.toList) :
    Calls P F cs w fun e w' => ∃ v J', e = .returned v ∧ Tr B w.heap.size J H w J' H' w' ∧ WRel B J' H' w' ∧ VRel J' H' r v := by
  obtain ⟨v, hv⟩ : ∃ v, vs = [v] := by
    unfold sortP at h
    split at h
    · exact ⟨_, rfl⟩
    · exact ⟨_, rfl⟩
    · cases h
  subst hv
  obtain ⟨c, hc, hvc⟩ := hl.get (i := 0) (x := v) rfl
  have hcs : cs = #[c] := by
    have h1 := hl.1
    apply Array.toList_inj.1
    cases hcl : cs.toList with
    | nil => rw [hcl] at h1; simp at h1
    | cons a t =>
      rw [hcl] at h1 hc
      simp at h1 hc
      subst hc
      simp [h1]
  subst hcs
  have tup : VRel J H' (.tuple #[]) (.tuple #[]) := .tup _ _ rfl (fun i x y hx => by simp at hx)
  unfold sortP at h
  split at h
  · rename_i heq
    cases h
    cases heq
    cases hvc
    exact (hS.non none 0 w).mono fun e w' ⟨h1, h2⟩ => by
      subst h2
      exact ⟨_, J, h1, Tr.refl _ _ _ _ _, hw, tup⟩
  · rename_i id off len cap heq
    cases heq
    split at h
    · rename_i o ho
      split at h
      · rename_i hcnd
        obtain ⟨hc1, hc2, hc3, hc4, hc5⟩ := hcnd
        cases h
        cases hvc with
        | sl _ _ _ _ _ o' a ccap ho' hg hll hcc hv =>
          rw [ho] at ho'
          cases ho'
          obtain ⟨l, hJ, hv⟩ := hv hc1
          obtain ⟨l', ds, e, lo, hi, hJ', hb, hsz, hlen, hcell, hfr⟩ := hw.row id o ho
          rw [hJ] at hJ'
          cases hJ'
          generalize hzs : ((o.drop off).take len).map toI = zs at *
          have hzl : zs.length = len := by subst hzs; simp; omega
          have hB := hm id hc3
          have hidl := (List.getElem?_eq_some_iff.1 ho).1
          have hget : ∀ j, j < len → o[off + j]? = some (.int .i64 zs[j]!) := fun j hj => by
            have h1 : off + j < o.length := by omega
            have h2 : ((o.drop off).take len)[j]? = some o[off + j] := by
              rw [List.getElem?_take, if_pos hj, List.getElem?_drop, List.getElem?_eq_getElem h1]
            have h3 : zs[j]! = toI o[off + j] := by
              subst hzs
              have h4 : (((o.drop off).take len).map toI)[j]? = some (toI o[off + j]) := by rw [List.getElem?_map, h2]; rfl
              rw [getElem!_def, h4]
            rw [List.all_eq_true] at hc5
            rw [List.getElem?_eq_getElem h1, h3, ← isI_eq (hc5 _ (List.mem_of_getElem? h2))]
          by_cases h0 : len = 0
          · subst h0
            have hz0 : zs = [] := List.eq_nil_of_length_eq_zero hzl
            subst hz0
            have : H.set id (spl o off ((srt []).map (Value.int .i64))) = H := by
              have e1 : srt [] = [] := by simp [srt]
              rw [e1]
              show H.set id o = H
              refine List.ext_getElem? fun j => ?_
              rw [List.getElem?_set]
              split
              · rename_i e; subst e; rw [ho]
              · rfl
            rw [this]
            exact (hS.non (some a) ccap w).mono fun e w' ⟨h1, h2⟩ => by
              subst h2
              exact ⟨_, J, h1, Tr.refl _ _ _ _ _, hw, .tup _ _ rfl (fun i x y hx => by simp at hx)⟩
          · rcases hv with ⟨hv, _⟩ | ⟨rfl, hv⟩
            · exact absurd hv h0
            have hbl : l.b < w.heap.size := (Array.getElem?_eq_some_iff.1 hb).1
            have hoff : off + len ≤ o.length := by omega
            have hHold : Sort.Holds (Value.int .i64) w l.b (l.sh + off) zs.toArray := fun j hj => by
              have hj' : j < len := by simpa [hzl] using hj
              obtain ⟨_, d, hd, hvr⟩ := hcell _ _ (hget j hj')
              have hd' : d = .int .i64 zs[j]! := by cases hvr; rfl
              subst hd'
              have hfro := hfr hB (l.sh + off + j) (by omega) (by omega)
              constructor
              · simp only [World.cell?, hb]
                rw [Nat.add_assoc, hd]
                simp
              · simp only [World.frozen?, hb]
                simp
                omega
            have := hS.run l.b (l.sh + off) ccap zs w hHold hbl (by omega)
            rw [hzl] at this
            refine this.mono fun e' w' ⟨h1, n, os, h2⟩ => ?_
            have hsl : (srt zs).length = len := by simp [srt, hzl]
            have hH : ∀ j, (H.set id (spl o off ((srt zs).map (Value.int .i64))))[j]? = if id = j then some (spl o off ((srt zs).map (Value.int .i64))) else H[j]? := fun j => by
              rw [List.getElem?_set]
              split
              · rfl
              · rfl
            have hkeep : Keep J H J (H.set id (spl o off ((srt zs).map (Value.int .i64)))) := fun id' o' ho' => by
              rw [hH]
              split
              · rename_i e; subst e
                rw [ho] at ho'
                cases ho'
                exact ⟨_, rfl, .inr ⟨by rw [spl_length], rfl⟩⟩
              · exact ⟨o', ho', .inr ⟨rfl, rfl⟩⟩
            have hsize : w.heap.size ≤ w'.heap.size := by
              subst h2
              simp [Sort.putRow, Sort.mapBlock, Sort.ahead]
            refine ⟨_, J, h1, ⟨hkeep, fun b hb hn => ?_, fun id' l' h => .inl ⟨l', h, rfl⟩, hsize, by subst h2; rfl, by subst h2; rfl, by subst h2; rfl⟩, ⟨fun id' o' ho' => ?_, hw.uni, fun id' hid' => hw.dom id' (by simpa using hid')⟩, .tup _ _ rfl (fun i x y hx => by simp at hx)⟩
            · subst h2
              exact putRow_old hb (hn id l hJ hB)
            · rw [hH] at ho'
              split at ho'
              · rename_i e2; subst e2
                cases ho'
                refine ⟨l, _, e, lo, hi, hJ, by subst h2; exact putRow_heap hb, by simp [Sort.putCells, hsz], by rw [spl_length]; exact hlen, fun i v hiv => ?_, hfr⟩
                rw [spl_get] at hiv
                have hil : i < o.length := by
                  split at hiv
                  · split at hiv
                    · have := (List.getElem?_eq_some_iff.1 hiv).1
                      simp [hsl] at this
                      omega
                    · cases hiv
                  · exact (List.getElem?_eq_some_iff.1 hiv).1
                obtain ⟨v0, hv0⟩ : ∃ v0, o[i]? = some v0 := ⟨_, List.getElem?_eq_getElem hil⟩
                obtain ⟨hone, d, hd, hvr⟩ := hcell _ _ hv0
                simp only [Sort.putCells, Array.getElem?_mapIdx, hd, Option.map_some, Option.some.injEq, exists_eq_left']
                by_cases hin : off ≤ i ∧ i < off + len
                · rw [if_pos (by simp [hsl]; omega)] at hiv
                  have hidx : (srt zs)[i - off]? = some (srt zs)[i - off]! := by
                    have hlt : i - off < (srt zs).length := by omega
                    rw [getElem!_pos (srt zs) (i - off) hlt, List.getElem?_eq_getElem hlt]
                  rw [List.getElem?_map, hidx] at hiv
                  simp only [Option.map_some] at hiv
                  have hv' : Value.int .i64 (srt zs)[i - off]! = v := by
                    simpa [hil] using hiv
                  subst hv'
                  rw [if_pos (by simp [hzl]; omega)]
                  have : l.sh + i - (l.sh + off) = i - off := by omega
                  rw [this]
                  refine ⟨rfl, ?_⟩
                  have e3 : (srt zs).toArray[i - off]! = (srt zs)[i - off]! := by
                    simp
                  show VRel _ _ _ (.int .i64 ((srt zs).toArray[i - off]!))
                  rw [e3]
                  exact .int _ _
                · have hiv' : o[i]? = some v := by
                    split at hiv
                    · rename_i hcc2
                      simp [hsl] at hcc2
                      omega
                    · exact hiv
                  rw [hv0] at hiv'
                  cases hiv'
                  rw [if_neg (by simp [hzl]; omega)]
                  exact ⟨hone, hvr.keep hkeep⟩
              · rename_i hne
                obtain ⟨l2, ds2, e2, lo2, hi2, q1, q2, q3, q4, q5, q6⟩ := hw.row id' o' ho'
                refine ⟨l2, ds2, e2, lo2, hi2, q1, ?_, q3, q4, fun i v hv => ⟨(q5 i v hv).1, ?_⟩, q6⟩
                · subst h2
                  rw [putRow_old (Array.getElem?_eq_some_iff.1 q2).1 (hw.uni id id' l l2 hne hB hJ q1), q2]
                · obtain ⟨_, d, hd, hvr⟩ := q5 i v hv
                  exact ⟨d, hd, hvr.keep hkeep⟩
      · cases h
    · cases h
  · cases h
end Go.Proofs.Ytdplmjlbkaipiaa.Ev

/- Functions that are told by themselves: the calls, and the law's row. -/
namespace Go.Proofs.Ytdplmjlbkaipiaa.Ev
set_option linter.all false
open Go RowKit

theorem Fun.prim {E : Env} {m : Md} {f : Nat} {vs : List Value} {H H' : Hp} {r : Value} {p : Md → List Value → Hp → Option (Value × Hp)} {Q : Value → Hp → Prop} (hp : E.prim f = some p) (h : p m vs H = some (r, H')) (hq : Q r H') : Fun E m f vs H Q :=
  ⟨1, r, H', by rw [evF, hp]; exact h, hq⟩

theorem Sl.sort {E : Env} {m : Md} {F : Nat} {H : Hp} {v : Value} {l : List Int} (hp : E.prim F = some sortP) (h : Sl (En eI) 1 H v l) (hle : l.length ≤ 1048576) (hw : ∀ id ∈ idsOf v, m.wr id = true) :
    Fun E m F [v] H fun r H' => r = .tuple #[] ∧ Sl (En eI) 1 H' v (srt l) ∧ (∀ j, j ∉ idsOf v → H'[j]? = H[j]?) ∧ H'.length = H.length := by
  rcases h with ⟨rfl, rfl⟩ | ⟨id, off, cap, o, rfl, ho, hc, hn, hrm, hr⟩
  · exact Fun.prim hp rfl ⟨rfl, .inl ⟨rfl, by simp [srt]⟩, fun _ _ => rfl, rfl⟩
  · have hget : ∀ i, (hi : i < l.length) → o[off + i]? = some (.int .i64 l[i]) := fun i hi => by
      have h1 := hr i l[i] (List.getElem?_eq_getElem hi)
      unfold En at h1
      simpa [eI] using getElem?_of_take h1 (j := 0) (by omega)
    have hcs : (o.drop off).take l.length = l.map (Value.int .i64) := by
      refine List.ext_getElem? fun j => ?_
      rw [List.getElem?_take, List.getElem?_map]
      split
      · rename_i hj
        rw [List.getElem?_drop, hget j hj, List.getElem?_eq_getElem hj]
        rfl
      · rename_i hj
        rw [List.getElem?_eq_none (by omega)]
        rfl
    have hz : ((o.drop off).take l.length).map toI = l := by
      rw [hcs, List.map_map]
      exact List.map_id l
    have hall : ((o.drop off).take l.length).all isI = true := by
      rw [hcs, List.all_map]
      exact List.all_eq_true.2 fun _ _ => rfl
    have hsl : (srt l).length = l.length := by simp [srt]
    have hidl := (List.getElem?_eq_some_iff.1 ho).1
    refine Fun.prim hp (r := .tuple #[]) (H' := H.set id (spl o off ((srt l).map (Value.int .i64)))) ?_ ⟨rfl, .inr ⟨id, off, cap, _, by rw [hsl], List.getElem?_set_self hidl, by rw [spl_length]; exact hc, by rw [hsl]; exact hn, by rw [hsl]; exact hrm, fun i a hi => ?_⟩, fun j hj => ?_, by simp⟩
    · unfold sortP
      simp only [ho]
      rw [if_pos ⟨hc, by omega, hw id (by simp [idsOf]), by omega, hall⟩, hz]
    · have hil : i < l.length := by rw [← hsl]; exact (List.getElem?_eq_some_iff.1 hi).1
      unfold En eI
      refine List.ext_getElem? fun j => ?_
      rw [take_drop_get]
      by_cases hj : j < 1
      · have : j = 0 := by omega
        subst this
        rw [if_pos hj, spl_get, if_pos (by simp [hsl]; omega), if_pos (by omega), List.getElem?_map, show off + i * 1 + 0 - off = i by omega, hi]
        rfl
      · rw [if_neg hj, List.getElem?_eq_none (by simp; omega)]
    · rw [List.getElem?_set_ne]
      simp [idsOf] at hj
      omega

/-- The law's row where slices.Sort stands by its contract. -/
theorem law_run_s {P : Program} {E : Env} {hv : Nat → Nat → Bool} {J : Inj} {M : Hp} {w : World} {vs : List Value} {cs : Array Value} {f F : Nat} (hmix : P.follows .mixedOrders = true) (hE : E.fns = fnsOf P hv) (hp : ∀ f p, E.prim f = some p → f = F ∧ p = sortP) (hS : SortOk P F) (hr : RdRel J M w) (hl : LRel J M vs cs.toList)
    (h : Fun E { wr := fun id => decide (M.length ≤ id), nr := false } f vs M fun r _ => r = .bool true) : Calls P f cs w fun e w' => e = .returned (.bool true) ∧ Below w.heap.size w w' := by
  obtain ⟨k, r, H', h1, rfl⟩ := h
  refine law_calls hmix hE (fun f p h => ?_) (fun f p h => ?_) h1 hr hl
  · obtain ⟨rfl, rfl⟩ := hp f p h
    intro m vs H r H' h2 hm hB
    exact ⟨hS.fn, fun J w cs hw hl => sortP_sound hS h2 hm hw hl⟩
  · obtain ⟨rfl, rfl⟩ := hp f p h
    exact fun m vs H r H' h2 => sortP_kp h2
end Go.Proofs.Ytdplmjlbkaipiaa.Ev

/- Numbers that rise: plain. -/
namespace Go.Proofs.Ytdplmjlbkaipiaa.Ev
set_option linter.all false
open Go

/-- Neighbours that are alike, once. -/
def cmpL : List Int → List Int
  | [] => []
  | [a] => [a]
  | a :: b :: t => if a = b then cmpL (b :: t) else a :: cmpL (b :: t)

theorem cmpL_snoc : ∀ (xs : List Int) (a b : Int), cmpL (xs ++ [a, b]) = if a = b then cmpL (xs ++ [a]) else cmpL (xs ++ [a]) ++ [b]
  | [], a, b => by
    by_cases h : a = b <;> simp [cmpL, h]
  | [x], a, b => by
    by_cases h : x = a <;> by_cases h2 : a = b <;> simp [cmpL, h, h2]
  | x :: y :: t, a, b => by
    have ih := cmpL_snoc (y :: t) a b
    simp only [List.cons_append] at ih ⊢
    by_cases h : x = y
    · rw [cmpL, if_pos h, cmpL, if_pos h, ih]
    · rw [cmpL, if_neg h, cmpL, if_neg h, ih]
      by_cases h2 : a = b
      · rw [if_pos h2, if_pos h2]
      · rw [if_neg h2, if_neg h2, List.cons_append]

/-- One more. -/
theorem cmpL_take {l : List Int} {k : Nat} (h : k + 1 < l.length) : cmpL (l.take (k + 2)) = if l[k] = l[k + 1] then cmpL (l.take (k + 1)) else cmpL (l.take (k + 1)) ++ [l[k + 1]] := by
  have e1 : l.take (k + 1) = l.take k ++ [l[k]] := by rw [List.take_succ_eq_append_getElem]
  have e2 : l.take (k + 2) = l.take k ++ [l[k], l[k + 1]] := by
    have h3 : l.take (k + 2) = l.take (k + 1) ++ [l[k + 1]] := by rw [show k + 2 = (k + 1) + 1 from rfl, List.take_succ_eq_append_getElem]
    rw [h3, e1, List.append_assoc]
    rfl
  rw [e2, cmpL_snoc, e1]

theorem cmpL_mem : ∀ (l : List Int) (x : Int), x ∈ cmpL l ↔ x ∈ l
  | [], x => by simp [cmpL]
  | [a], x => by simp [cmpL]
  | a :: b :: t, x => by
    have := cmpL_mem (b :: t) x
    rw [cmpL]
    split
    · rename_i h
      rw [this, h]
      simp
    · rw [List.mem_cons, this, List.mem_cons (a := x) (b := a)]

/-- Numbers that rise. -/
def Asc (l : List Int) : Prop := l.Pairwise (· < ·)

theorem cmpL_asc : ∀ (l : List Int), l.Pairwise (· ≤ ·) → Asc (cmpL l)
  | [], _ => by simp [cmpL, Asc]
  | [a], _ => by simp [cmpL, Asc]
  | a :: b :: t, h => by
    have h' := List.pairwise_cons.1 h
    have ih := cmpL_asc (b :: t) h'.2
    rw [cmpL]
    split
    · exact ih
    · rename_i hab
      refine List.pairwise_cons.2 ⟨fun x hx => ?_, ih⟩
      rw [cmpL_mem] at hx
      have h1 := h'.1 b (by simp)
      rcases List.mem_cons.1 hx with rfl | hx
      · omega
      · have := (List.pairwise_cons.1 h'.2).1 x hx
        omega

/-- Two rows of numbers that rise and hold the same are one. -/
theorem Asc.eq : ∀ {l k : List Int}, Asc l → Asc k → (∀ x, x ∈ l ↔ x ∈ k) → l = k
  | [], [], _, _, _ => rfl
  | [], b :: k, _, _, h => by have := (h b).2 (by simp); simp at this
  | a :: l, [], _, _, h => by have := (h a).1 (by simp); simp at this
  | a :: l, b :: k, hl, hk, h => by
    have hl := List.pairwise_cons.1 hl
    have hk := List.pairwise_cons.1 hk
    have hab : a = b := by
      have h1 := (h a).1 (by simp)
      have h2 := (h b).2 (by simp)
      rcases List.mem_cons.1 h1 with e | h1
      · exact e
      · rcases List.mem_cons.1 h2 with e | h2
        · exact e.symm
        · have := hk.1 a h1
          have := hl.1 b h2
          omega
    subst hab
    rw [Asc.eq hl.2 hk.2 fun x => ?_]
    have hx := h x
    constructor
    · intro hm
      rcases List.mem_cons.1 (hx.1 (List.mem_cons_of_mem _ hm)) with e | h2
      · have := hl.1 x hm
        omega
      · exact h2
    · intro hm
      rcases List.mem_cons.1 (hx.2 (List.mem_cons_of_mem _ hm)) with e | h2
      · have := hk.1 x hm
        omega
      · exact h2

theorem srt_sorted (l : List Int) : (srt l).Pairwise (· ≤ ·) := by
  have := List.pairwise_mergeSort (le := fun (x y : Int) => decide (x ≤ y)) (fun a b c h1 h2 => by simp at *; omega) (fun a b => by simp; omega) l
  exact this.imp fun h => by simpa using h
theorem srt_mem (l : List Int) (x : Int) : x ∈ srt l ↔ x ∈ l := by simp [srt]
theorem srt_len (l : List Int) : (srt l).length = l.length := by simp [srt]

/-- Sorted, each once. -/
def rsn (l : List Int) : List Int := cmpL (srt l)
theorem rsn_asc (l : List Int) : Asc (rsn l) := cmpL_asc _ (srt_sorted l)
theorem rsn_mem (l : List Int) (x : Int) : x ∈ rsn l ↔ x ∈ l := by rw [rsn, cmpL_mem, srt_mem]
end Go.Proofs.Ytdplmjlbkaipiaa.Ev

/- The rest of a slice; what lies behind a place, cleared. -/
namespace Go.Proofs.Ytdplmjlbkaipiaa.Ev
set_option linter.all false
open Go

section
variable {m : Md} {α : Type} {R : α → List Value → Prop} {esz : Nat} {H : Hp} {v : Value} {l : List α}

theorem Sl.drop (h : Sl R esz H v l) {i : Nat} (hi : i ≤ l.length) : ∃ v', (∀ (s : St) (x y : X), exv s.ρ x = some v → exv s.ρ y = some (.int .i64 i) → slcK s esz x (some y) none = some (.val v', s)) ∧
    (∀ j ∈ idsOf v', j ∈ idsOf v) ∧ ∀ (H' : Hp) (l' : List α), l'.length = l.length → Sl R esz H' v l' → Sl R esz H' v' (l'.drop i) := by
  rcases h with ⟨rfl, rfl⟩ | ⟨id, off, cap, o, rfl, ho, hc, hn, hrm, hr⟩
  · simp at hi
    subst hi
    refine ⟨.slice none 0 0, fun s x y hx hy => ?_, fun j hj => hj, fun H' l' hl h => by rw [List.eq_nil_of_length_eq_zero hl] at h ⊢; exact h⟩
    simp only [slcK, bnd, hx, hy]
    rfl
  · have hm : i * esz ≤ l.length * esz := Nat.mul_le_mul_right _ hi
    refine ⟨.slice (some ⟨id, off + i * esz, some esz⟩) (l.length - i) (cap - i * esz), fun s x y hx hy => ?_, fun j hj => hj, fun H' l' hl h => ?_⟩
    · simp only [slcK, bnd, hx, hy]
      rw [if_pos ⟨trivial, by omega, by omega, .inl (by omega), by simp; omega⟩]
      simp [St.val]
    · rcases h with ⟨h, _⟩ | ⟨id', off', cap', o', h, ho', hc', hn', hrm', hr'⟩
      · cases h
      · rw [← hl] at h
        cases h
        have hm' : i * esz ≤ l'.length * esz := Nat.mul_le_mul_right _ (by omega)
        refine .inr ⟨id, off + i * esz, cap - i * esz, o', by rw [List.length_drop, hl], ho', by omega, ?_, by rw [List.length_drop]; omega, fun j a hj => ?_⟩
        · rw [List.length_drop, Nat.sub_mul]; omega
        · rw [List.getElem?_drop] at hj
          have := hr' _ a hj
          rw [show off + i * esz + j * esz = off + (i + j) * esz by rw [Nat.add_mul]; omega]
          exact this

theorem Sl.cut (h : Sl R esz H v l) {i : Nat} (hi : i ≤ l.length) {zero : List Value} (hz : zero.length = esz) (hzs : zero.all scal = true) (hw : ∀ id ∈ idsOf v, m.wr id = true) : ∃ v3 v2 H', (∀ (s : St) (x y : X), exv s.ρ x = some v → exv s.ρ y = some (.int .i64 i) → slcK s esz x (some y) none = some (.val v3, s)) ∧
    (∀ (s : St) (x : X), s.H = H → exv s.ρ x = some v3 → clrK m s esz zero x = some (.val (.tuple #[]), { s with H := H' })) ∧
    (∀ (s : St) (x y : X), exv s.ρ x = some v → exv s.ρ y = some (.int .i64 i) → slcK s esz x none (some y) = some (.val v2, s)) ∧ Sl R esz H' v2 (l.take i) ∧ (∀ N, OwnS N v → OwnS N v2) ∧ (∀ j, j ∉ idsOf v → H'[j]? = H[j]?) ∧ H'.length = H.length ∧ ∀ j ∈ idsOf v2, j ∈ idsOf v := by
  rcases h with ⟨rfl, rfl⟩ | ⟨id, off, cap, o, rfl, ho, hc, hn, hrm, hr⟩
  · simp at hi
    subst hi
    refine ⟨.slice none 0 0, .slice none 0 0, H, fun s x y hx hy => ?_, fun s x hH hx => ?_, fun s x y hx hy => ?_, .inl ⟨rfl, by simp⟩, fun N h => h, fun _ _ => rfl, rfl, fun j hj => hj⟩
    · simp only [slcK, bnd, hx, hy]
      rfl
    · subst hH
      simp only [clrK, hx]
      rfl
    · simp only [slcK, bnd, hx, hy]
      rfl
  · have hm : i * esz ≤ l.length * esz := Nat.mul_le_mul_right _ hi
    have hidl := (List.getElem?_eq_some_iff.1 ho).1
    refine ⟨.slice (some ⟨id, off + i * esz, some esz⟩) (l.length - i) (cap - i * esz), .slice (some ⟨id, off, some esz⟩) i cap, H.set id (spl o (off + i * esz) (zeros (l.length - i) zero)), fun s x y hx hy => ?_, fun s x hH hx => ?_, fun s x y hx hy => ?_, .inr ⟨id, off, cap, _, by rw [List.length_take, Nat.min_eq_left hi], List.getElem?_set_self hidl, by rw [spl_length]; exact hc, by rw [List.length_take, Nat.min_eq_left hi]; omega, by rw [List.length_take]; omega, fun j a hj => ?_⟩, fun N h => ?_, fun j hj => ?_, by simp, fun j hj => hj⟩
    · simp only [slcK, bnd, hx, hy]
      rw [if_pos ⟨trivial, by omega, by omega, .inl (by omega), by simp; omega⟩]
      simp [St.val]
    · subst hH
      simp only [clrK, hx, ho]
      rw [if_pos ⟨trivial, by omega, hw id (by simp [idsOf]), hzs, by rw [Nat.sub_mul]; omega⟩]
    · simp only [slcK, bnd, hx, hy]
      rw [if_pos ⟨trivial, by omega, by omega, .inl (by omega), by simp⟩]
      simp [St.val]
    · rw [List.getElem?_take] at hj
      split at hj
      · rename_i hji
        have hm2 : (j + 1) * esz ≤ i * esz := Nat.mul_le_mul_right _ hji
        rw [Nat.succ_mul] at hm2
        rw [spl_other (.inl (by omega))]
        exact hr j a hj
      · cases hj
    · rcases h with h | ⟨id', e, ln, cp, h, hN⟩
      · cases h
      · cases h
        exact .inr ⟨_, _, _, _, rfl, hN⟩
    · rw [List.getElem?_set_ne]
      simp [idsOf] at hj
      omega
end
end Go.Proofs.Ytdplmjlbkaipiaa.Ev

/- Ways that come together again; calls that may write what they are handed. -/
namespace Go.Proofs.Ytdplmjlbkaipiaa.Ev
set_option linter.all false
open Go

section
variable {E : Env} {m : Md} {s : St} {Q : Ex → St → Prop} {ts : List Tk}

theorem go_then {c : CC} (P : St → Prop) (h : go E m [.c c] s fun e s' => e = .normal ∧ P s') (hq : ∀ s', P s' → go E m ts s' Q) : go E m (.c c :: ts) s Q := by
  rw [go] at *
  refine wpC_mono h fun e s' h => ?_
  cases e with
  | normal => simp only [thr, go] at *; exact hq _ h.2
  | exit j => simp only [thr] at h; exact absurd h.1 (by simp)
  | ret => simp only [thr] at h; exact absurd h.1 (by simp)

/-- Two ways, and what holds behind both. -/
theorem brT_join {c : Bool} {a b : CC} {s1 s2 : St} (P : St → Prop) (h1 : c = true → go E m [.c a] s1 fun e s' => e = .normal ∧ P s') (h2 : c = false → go E m [.c b] s2 fun e s' => e = .normal ∧ P s') (hq : ∀ s', P s' → go E m ts s' Q) : brT E m c (.c a :: ts) s1 (.c b :: ts) s2 Q :=
  ⟨fun h => go_then P (h1 h) hq, fun h => go_then P (h2 h) hq⟩

/-- A call that may write what it is handed, in a region with an open order too. -/
theorem callT_arg {f : Nat} {vs : List Value} {H : Hp} {P : Value → Hp → Prop} {draw : Bool} {d : Option Nat} (hpw : E.pw f = false) (h : ∀ m' : Md, Wr m' H → (∀ id ∈ vs.flatMap idsOf, m.wr id = true → m'.wr id = true) → m'.nr = m.nr → Fun E m' f vs H P) (hH : s.H = H) (hw : Wr m H)
    (hq : ∀ r H', P r H' → go E m ts { s with H := H', ρ := upd s.ρ d (.val r) } Q) : callT E m draw f (some vs) s d ts Q := by
  subst hH
  unfold callT opt
  refine Fun.mono (h _ (fun id hid => ?_) (fun id hid hm => ?_) ?_) hq
  · cases draw with
    | false => exact hw id hid
    | true => simp only [if_true, Md.drawn]; simp [hid]
  · cases draw with
    | false => exact hm
    | true =>
      simp only [if_true, Md.drawn, hpw]
      have : (vs.flatMap idsOf).contains id = true := List.contains_iff_mem.2 hid
      rw [hm, this]
      simp
  · cases draw <;> rfl
end
end Go.Proofs.Ytdplmjlbkaipiaa.Ev

/- Bytes and the numbers that are written in them: plain. -/
namespace Go.Proofs.Ytdplmjlbkaipiaa.Ev
set_option linter.all false
open Go

/-- A text of bytes that are told as numbers. -/
def strOf (l : List Nat) : ByteArray := ⟨(l.map UInt8.ofNat).toArray⟩
def varL (n : Nat) : List Nat := if n < 128 then [n] else (n % 128 + 128) :: varL (n / 128)
termination_by n

def varB (n : Int) : ByteArray := if 0 ≤ n ∧ n ≤ 562949953421311 then strOf (varL n.toNat) else ByteArray.empty

/-- What so many bytes say. -/
def valB (s : ByteArray) : Nat → Nat
  | 0 => 0
  | k + 1 => valB s k + (match s[k]? with | some b => b.toNat % 128 | none => 0) * 128 ^ k

theorem valB_lt (s : ByteArray) : ∀ k, valB s k < 128 ^ k
  | 0 => by simp [valB]
  | k + 1 => by
    have := valB_lt s k
    rw [valB, Nat.pow_succ]
    generalize hd : (match s[k]? with | some b => b.toNat % 128 | none => 0) = d
    have h2 : d ≤ 127 := by
      subst hd
      split
      · exact Nat.le_of_lt_succ (Nat.mod_lt _ (by decide))
      · exact Nat.zero_le _
    have h3 := Nat.mul_le_mul_right (128 ^ k) h2
    generalize d * 128 ^ k = q at h3
    omega

/-- Is that the number's text? -/
def isV (s : ByteArray) (k : Nat) : Prop := varB (valB s k) = s.extract 0 k

/-- The number that a text begins with, and how many bytes it has; none without one. -/
def readV (s : ByteArray) (n k : Nat) : Prop := 1 ≤ k ∧ k ≤ 7 ∧ k ≤ s.size ∧ n = valB s k ∧ isV s k
end Go.Proofs.Ytdplmjlbkaipiaa.Ev

/- Terms: plain. -/
namespace Go.Proofs.Ytdplmjlbkaipiaa.Ev
set_option linter.all false
open Go

/-- The text from a place on. -/
def rest (s : ByteArray) (at_ : Nat) : ByteArray := s.extract at_ s.size
theorem readV.max {s : ByteArray} {n k : Nat} (h : readV s n k) : n ≤ 562949953421311 := by
  obtain ⟨h1, h2, h3, h4, h5⟩ := h
  have := valB_lt s k
  have h6 : 128 ^ k ≤ 128 ^ 7 := Nat.pow_le_pow_right (by decide) h2
  have h7 : (128 : Nat) ^ 7 = 562949953421312 := by decide
  omega

end Go.Proofs.Ytdplmjlbkaipiaa.Ev

/- Rows of bytes, and the texts made of them. -/
namespace Go.Proofs.Ytdplmjlbkaipiaa.Ev
set_option linter.all false
open Go

def eN (n : Nat) : List Value := [.int .u8 (n : Int)]
abbrev SlN (H : Hp) (v : Value) (l : List Nat) : Prop := Sl (En eN) 1 H v l

theorem bytesOf_map : ∀ {l : List Nat}, (∀ n ∈ l, n < 256) → bytesOf (l.map fun (n : Nat) => Value.int .u8 (n : Int)) = some (l.map UInt8.ofNat)
  | [], _ => rfl
  | a :: l, h => by
    have ih := bytesOf_map (l := l) fun n hn => h n (List.mem_cons_of_mem _ hn)
    have ha := h a (by simp)
    simp only [List.map_cons, bytesOf, ih, byteOf, Int.toNat_natCast]

theorem Sl.b2s {H : Hp} {v : Value} {l : List Nat} (h : SlN H v l) (hl : ∀ n ∈ l, n < 256) : ∀ (s : St) (x : X), s.H = H → ex s.ρ x = .val v → b2sK s x = some (.val (.string (strOf l)), s) := by
  obtain ⟨cs, h1, h2, h3⟩ := h.src
  intro s x hH hx
  have hcs : cs = l.map fun (n : Nat) => Value.int .u8 (n : Int) := by
    refine List.ext_getElem? fun j => ?_
    rw [List.getElem?_map]
    by_cases hj : j < l.length
    · have := h3 j _ (List.getElem?_eq_getElem hj)
      unfold En eN at this
      have h4 := getElem?_of_take this (j := 0) (by omega)
      rw [Nat.mul_one, Nat.add_zero] at h4
      rw [h4, List.getElem?_eq_getElem hj]
      rfl
    · rw [List.getElem?_eq_none (by omega), List.getElem?_eq_none (by omega)]
      rfl
  unfold b2sK
  rw [hx, hH, h1]
  simp only
  rw [hcs, bytesOf_map hl]
  rfl

end Go.Proofs.Ytdplmjlbkaipiaa.Ev

/- A number's text, and what follows it, read again: plain. -/
namespace Go.Proofs.Ytdplmjlbkaipiaa.Ev
set_option linter.all false
open Go

theorem cat_left {a b : ByteArray} {i : Nat} (h : i < a.size) : (a ++ b)[i]? = a[i]? := by
  show (a ++ b).data[i]? = a.data[i]?
  rw [ByteArray.data_append, Array.getElem?_append_left (show i < a.data.size from h)]
end Go.Proofs.Ytdplmjlbkaipiaa.Ev

/- A row of plain elements behind another one; one element taken out of a row. -/
namespace Go.Proofs.Ytdplmjlbkaipiaa.Ev
set_option linter.all false
open Go

section
variable {m : Md} {α : Type} {enc : α → List Value} {esz : Nat} {H : Hp} {v u : Value} {l l2 : List α}

theorem chunk_at {o : List Value} {p n k : Nat} (h : k < n) : ((o.drop p).take n)[k]? = o[p + k]? := by rw [take_drop_get, if_pos h]

end
end Go.Proofs.Ytdplmjlbkaipiaa.Ev

/- Terms within longer texts; what was written is read back: plain. -/
namespace Go.Proofs.Ytdplmjlbkaipiaa.Ev
set_option linter.all false
open Go

theorem valB_ext {s y : ByteArray} : ∀ {k : Nat}, k ≤ s.size → valB (s ++ y) k = valB s k
  | 0, _ => rfl
  | k + 1, h => by rw [valB, valB, valB_ext (by omega), cat_left (by omega)]
theorem extract_ext {s y : ByteArray} {a k : Nat} (h : k ≤ s.size) : (s ++ y).extract a k = s.extract a k := by
  refine ByteArray.ext ?_
  rw [ByteArray.data_extract, ByteArray.data_extract, ByteArray.data_append, Array.extract_append]
  have : s.size = s.data.size := rfl
  have h2 : k - s.data.size = 0 := by omega
  rw [h2]
  simp
theorem readV.ext {s y : ByteArray} {n k : Nat} (h : readV s n k) : readV (s ++ y) n k := by
  obtain ⟨h1, h2, h3, h4, h5⟩ := h
  refine ⟨h1, h2, by rw [ByteArray.size_append]; omega, by rw [valB_ext h3]; exact h4, ?_⟩
  unfold isV
  rw [valB_ext h3, extract_ext h3]
  exact h5
end Go.Proofs.Ytdplmjlbkaipiaa.Ev

/- An element read and written; the front of a row of one's own; shared. -/
namespace Go.Proofs.Ytdplmjlbkaipiaa.Ev
set_option linter.all false
open Go

theorem Sl.both {α : Type} {R : α → List Value → Prop} {esz : Nat} {H : Hp} {v : Value} {l : List α} (h : Sl R esz H v l) {i : Nat} (hi : i < l.length) : ∃ id p o, H[id]? = some o ∧ p + esz ≤ o.length ∧ idsOf v = [id] ∧ R l[i] ((o.drop p).take esz) ∧
    (∀ (s : St) (x y : X), exv s.ρ x = some v → exv s.ρ y = some (.int .i64 i) → iadrK s esz x y = some (.val (.pointer (some ⟨id, p, some o.length⟩)), s)) ∧
    ∀ a cs, cs.length = esz → R a cs → Sl R esz (H.set id (spl o p cs)) v (l.set i a) := by
  obtain ⟨id, p, o, h1, h2, h3, h4, h5⟩ := h.store hi
  obtain ⟨id', p', o', g1, g2, g3, g4⟩ := h.elem (List.getElem?_eq_getElem hi)
  have e1 := h4 { ρ := fun t => if t = 0 then .val v else .val (.int .i64 i), gn := 0, H := [] } (.t 0) (.t 1) rfl rfl
  have e2 := g4 { ρ := fun t => if t = 0 then .val v else .val (.int .i64 i), gn := 0, H := [] } (.t 0) (.t 1) rfl rfl
  rw [e1] at e2
  simp only [Option.some.injEq, Prod.mk.injEq, FV.val.injEq, Value.pointer.injEq, Addr.mk.injEq, and_true] at e2
  obtain ⟨rfl, rfl, _⟩ := e2
  rw [h1] at g1
  cases g1
  exact ⟨id, p, o, h1, h2, h3, g2, h4, h5⟩
theorem spl_one {o cs : List Value} {p n j : Nat} {x : Value} (hc : (o.drop p).take n = cs) (hj : j < n) (hl : p + n ≤ o.length) : spl o (p + j) [x] = spl o p (cs.set j x) := by
  have hcl : cs.length = n := by rw [← hc, List.length_take, List.length_drop]; omega
  refine List.ext_getElem? fun k => ?_
  rw [spl_get, spl_get, List.length_set, hcl]
  by_cases hk : p ≤ k ∧ k < p + n
  · have hko : k < o.length := by omega
    rw [if_pos hk]
    simp only [if_pos hko]
    obtain ⟨hk1, hk2⟩ := hk
    by_cases hkj : k = p + j
    · subst hkj
      rw [if_pos (by simp), Nat.add_sub_cancel_left, List.getElem?_set_self (by omega), Nat.sub_self]
      rfl
    · rw [if_neg (by simp; omega), List.getElem?_set_ne (by omega), ← hc, chunk_at (by omega)]
      congr 1
      omega
  · rw [if_neg hk, if_neg (by simp; omega)]


end Go.Proofs.Ytdplmjlbkaipiaa.Ev

/- The machine's rules under one name. -/
namespace Go.Proofs.Ytdplmjlbkaipiaa.Ev
set_option linter.all false
open Go
attribute [go_sem] go_nil go_blk go_skip go_ret go_exit go_seq go_block go_reg go_r0 go_r go_d0 go_d go_e0 go_e box2 go_w0 go_w box3 Option.isSome_some Nat.le_refl go_cond go_o go_g aft_some cnd_bool grd_bool grd_tup brT_true brT_false brT_not thr_exit thr_c thr_nil stp stepK movK mv1 ex exv exvs upd_some upd_none ini St.val binK binV ofV pickK unK unV beqK beq_true beq_false if_true if_false List.getElem?_cons_zero List.getElem?_cons_succ loadK adr deref Ad.fv Ad.live fadrK List.length_cons List.length_nil List.drop_zero List.drop_succ_cons List.take_succ_cons List.take_zero Nat.zero_add Nat.add_zero aeqK agEq scEq boxVK newVK exc vc_agg vc_int vc_bool vc_str vc_ptr vc_sl vc_fn boxOf adInf List.reverse_cons List.reverse_nil List.nil_append List.cons_append extK Bool.and_true Bool.true_and Bool.not_true Bool.not_false resT resVs resV true_and and_true storeK spl_nil spl_z spl_1 spl_2 spl_3 spl_4 spl_5 spl_6 spl_7 spl_8 scal_int scal_bool scal_str scal_nil implies_true Bool.and_self Post_ret Post_normal PostS_ret PostS_normal retT_true retT_false flat_bool flat_int flat_str List.take_length decide_true decide_false Option.some.injEq Value.bool.injEq Value.int.injEq Bool.false_and Bool.and_false not_false_eq_true not_true_eq_false toIntK List.length_set Bool.not_eq_true Bool.not_eq_false List.all_cons List.all_nil exps fillL buildK strK nilcK fnK callVT List.size_toArray List.append_nil List.singleton_append boxOK newOK List.isEmpty_nil List.isEmpty_cons mkVK mkOK mkCells zeros_0 zeros_1 zeros_2 zeros_3 zeros_4 List.map_cons List.map_nil
end Go.Proofs.Ytdplmjlbkaipiaa.Ev

/- The seat's program on the small machine: which slots hold boxes of their own, which functions leave memory as it is. -/
namespace Go.Proofs.Ytdplmjlbkaipiaa.Ev
set_option linter.all false
open Go
def hvT : List (Nat × List Nat) := [(18, [4]), (24, [38, 68]), (25, [35, 66]), (29, [41]), (30, [39]), (31, [20]), (37, [25, 37]), (41, [4]), (43, [24]), (44, [5, 26]), (46, [60]), (48, [21]), (49, [20]), (50, [7, 75]), (51, [7, 68]), (56, [3]), (57, [1, 2, 3]), (59, [3]), (60, [2, 3]), (63, [11]), (64, [11, 44]), (65, [42]), (69, [5, 31, 41]), (71, [2]), (73, [1, 2, 3]), (79, [2, 3]), (81, [36]), (83, [6, 27, 40, 45, 60, 78]), (84, [3]), (93, [31, 38, 44])]
def hv (f t : Nat) : Bool := match hvT.find? (·.1 == f) with | some p => p.2.contains t | none => false
def trT : List Nat := [15, 16, 18, 19, 20, 22, 23, 28, 35, 36, 38, 39, 41, 42, 52, 55, 56, 57, 58, 59, 60, 61, 62, 64, 71, 72, 74, 75, 76, 77, 78, 79, 84, 85, 90, 91, 92]
noncomputable def EE : Env := { fns := fnsOf Go.Proofs.Try.prog hv, prim := fun f => if f = 87 then some sortP else none, pw := fun f => [82].contains f, tr := fun f => trT.contains f }
end Go.Proofs.Ytdplmjlbkaipiaa.Ev

/- Code of the program's functions, as the small machine has it: written by mkcode.py. -/
namespace Go.Proofs.Ytdplmjlbkaipiaa.Ev
set_option linter.all false
open Go
def c3 : CF := ⟨27, (.seq (.reg false [⟨(some 2), .none, (.mov (.c (.bool false))), 0, []⟩]) (.seq (.reg false [⟨(some 3), .none, (.mov (.c (.int .i64 1048576))), 0, []⟩]) (.seq (.reg false [⟨(some 7), .none, (.mov (.t 0)), 0, []⟩, ⟨(some 8), .none, (.mov (.t 3)), 1, []⟩, ⟨(some 9), .none, (.call 15 [(.t 7), (.t 8)]), 2, []⟩, ⟨(some 3), .none, (.mov (.t 9)), 3, []⟩]) (.seq (.seq (.reg false [⟨(some 10), .none, (.mov (.t 3)), 0, []⟩, ⟨(some 11), .none, (.bin .lss (.t 10) (.c (.int .i64 0))), 1, []⟩]) (.cond (.t 11) (.seq (.reg false [⟨(some 2), .none, (.mov (.c (.bool true))), 0, []⟩]) .ret) .skip)) (.seq (.reg false [⟨(some 12), .none, (.mov (.t 0)), 0, []⟩, ⟨(some 13), .none, (.call 17 [(.t 12)]), 1, []⟩, ⟨(some 14), .none, (.call 16 [(.t 13)]), 2, []⟩, ⟨(some 4), .none, (.mov (.t 14)), 3, []⟩]) (.seq (.reg false [⟨(some 15), .none, (.mov (.t 0)), 0, []⟩, ⟨(some 16), .none, (.call 17 [(.t 15)]), 1, []⟩, ⟨(some 5), .none, (.mov (.t 16)), 2, []⟩]) (.seq (.reg false [⟨(some 17), .none, (.mov (.t 5)), 0, []⟩, ⟨(some 18), .none, (.call 18 [(.t 17)]), 1, []⟩, ⟨(some 6), .none, (.mov (.t 18)), 2, []⟩]) (.seq (.seq (.reg false [⟨(some 19), .none, (.mov (.t 6)), 0, []⟩, ⟨(some 20), .none, (.mov (.t 4)), 1, []⟩, ⟨(some 21), .none, (.beq true (.t 19) (.t 20)), 2, []⟩]) (.cond (.t 21) (.seq (.reg false [⟨(some 2), .none, (.mov (.c (.bool false))), 0, []⟩]) .ret) .skip)) (.seq (.seq (.reg false [⟨(some 22), .none, (.mov (.t 5)), 0, []⟩, ⟨(some 23), .none, (.mov (.t 0)), 1, []⟩, ⟨(some 24), .none, (.call 17 [(.t 23)]), 2, []⟩, ⟨(some 25), .none, (.call 19 [(.t 22), (.t 24)]), 3, []⟩, ⟨(some 26), .none, (.un .not (.t 25)), 4, []⟩]) (.cond (.t 26) (.seq (.reg false [⟨(some 2), .none, (.mov (.c (.bool false))), 0, []⟩]) .ret) .skip)) (.seq (.reg false [⟨(some 2), .none, (.mov (.c (.bool true))), 0, []⟩]) .ret)))))))))), [(.t 2)]⟩
theorem k3 : EE.fns 3 = some c3 := by kernel_rfl
def c78 : CF := ⟨15, (.seq (.reg false [⟨(some 6), .none, (.mov (.c (.bool false))), 0, []⟩]) (.seq (.reg false [⟨(some 7), .none, (.mov (.t 0)), 0, []⟩, ⟨(some 8), .none, (.mov (.t 1)), 1, []⟩, ⟨(some 9), .none, (.bin .geq (.t 7) (.t 8)), 2, []⟩, ⟨(some 10), .none, (.mov (.t 9)), 3, []⟩, ⟨(some 11), (.some (10, true)), (.mov (.t 0)), 4, []⟩, ⟨(some 12), (.some (10, true)), (.mov (.t 2)), 5, []⟩, ⟨(some 13), (.some (10, true)), (.bin .leq (.t 11) (.t 12)), 6, []⟩, ⟨(some 14), .none, (.pick (.t 10) (.t 13) (.c (.bool false))), 7, []⟩, ⟨(some 6), .none, (.mov (.t 14)), 8, []⟩]) .ret)), [(.t 6)]⟩
theorem k78 : EE.fns 78 = some c78 := by kernel_rfl
end Go.Proofs.Ytdplmjlbkaipiaa.Ev

/- Ways between realms: the small functions. -/
namespace Go.Proofs.Ytdplmjlbkaipiaa.Ev
set_option linter.all false
open Go
set_option maxRecDepth 4000

abbrev Hop := Int × Int
def inR (r : Int) : Bool := decide (0 ≤ r) && decide (r < 8)

theorem f78 {H : Hp} {a b c : Int} : Scal EE 78 [.int .i64 a, .int .i64 b, .int .i64 c] H (.bool (decide (a ≥ b) && decide (a ≤ c))) := by
  refine scal_ok rfl rfl k78 (by simp [c78]) rfl fun m hw => ?_
  simp only [go_sem, ↓reduceIte, Nat.reduceEqDiff, reduceCtorEq, Nat.reduceAdd, Nat.reduceLeDiff, Nat.reduceMul, c78]
  refine brT.intro (fun h1 => ?_) (fun h1 => ?_) <;> simp only [go_sem, ↓reduceIte, Nat.reduceEqDiff, reduceCtorEq, Nat.reduceAdd, Nat.reduceLeDiff, Nat.reduceMul, h1]
theorem c78' {m : Md} {draw : Bool} {s : St} {d : Option Nat} {ts : List Tk} {Q : Ex → St → Prop} {a b c : Int} (hw : Wr m s.H) :
    callT EE m draw 78 (some [.int .i64 a, .int .i64 b, .int .i64 c]) s d ts Q = go EE m ts { s with ρ := upd s.ρ d (.val (.bool (decide (a ≥ b) && decide (a ≤ c)))) } Q := callT_at f78 rfl hw

theorem notin_succ {α : Type} {l : List α} {h : α} {i : Nat} (hi : i < l.length) (h1 : h ∉ l.take i) (h2 : l[i] ≠ h) : h ∉ l.take (i + 1) := by
  intro hm
  rw [List.take_succ_eq_append_getElem hi] at hm
  rcases List.mem_append.1 hm with a | a
  · exact h1 a
  · exact h2 (List.mem_singleton.1 a).symm

noncomputable def idxI {α : Type} [DecidableEq α] (l : List α) (h : α) : Int := if h ∈ l then (l.findIdx fun x => decide (x = h)) else -1
theorem idxI_nonneg {α : Type} [DecidableEq α] {l : List α} {h : α} : 0 ≤ idxI l h ↔ h ∈ l := by
  unfold idxI
  split <;> simp_all
theorem idxI_at {α : Type} [DecidableEq α] {l : List α} {h : α} {i : Nat} (hi : i < l.length) (h1 : h ∉ l.take i) (h2 : l[i] = h) : idxI l h = i := by
  unfold idxI
  rw [if_pos (h2 ▸ List.getElem_mem hi)]
  congr 1
  rw [List.findIdx_eq hi]
  refine ⟨by simp [h2], fun j hj => ?_⟩
  have hjl : j < l.length := by omega
  simp only [decide_eq_false_iff_not]
  rintro rfl
  exact h1 (List.mem_take_iff_getElem.2 ⟨j, by omega, rfl⟩)

end Go.Proofs.Ytdplmjlbkaipiaa.Ev

/- The types of the laws' parameters. -/
namespace Go.Proofs.Ytdplmjlbkaipiaa.Ev
set_option linter.all false
open Go
set_option maxRecDepth 100000
end Go.Proofs.Ytdplmjlbkaipiaa.Ev

/- Code of the program's functions, as the small machine has it: written by mkcode.py. -/
namespace Go.Proofs.Ytdplmjlbkaipiaa.Ev
set_option linter.all false
open Go
def c14 : CF := ⟨185, (.seq (.reg false [⟨(some 2), .none, (.mov (.c (.bool false))), 0, []⟩]) (.seq (.seq (.reg false [⟨(some 19), .none, (.mov (.t 0)), 0, []⟩, ⟨(some 20), .none, (.call 33 [(.t 19)]), 1, []⟩]) (.cond (.t 20) (.seq (.reg false [⟨(some 2), .none, (.mov (.c (.bool true))), 0, []⟩]) .ret) .skip)) (.seq (.reg false [⟨(some 22), .none, (.mov (.t 0)), 0, []⟩, ⟨(some 23), .none, (.call 53 [(.t 22)]), 1, []⟩, ⟨(some 21), .none, (.mov (.t 23)), 2, []⟩, ⟨(some 24), .none, (.ext (.t 21) 0), 3, []⟩, ⟨(some 25), .none, (.ext (.t 21) 1), 4, []⟩, ⟨(some 3), .none, (.mov (.t 24)), 5, []⟩, ⟨(some 4), .none, (.mov (.t 25)), 6, []⟩]) (.seq (.reg false [⟨(some 26), .none, (.mov (.t 3)), 0, []⟩, ⟨(some 27), .none, (.mov (.t 4)), 1, []⟩, ⟨(some 28), .none, (.call 49 [(.t 26), (.t 27)]), 2, []⟩, ⟨(some 5), .none, (.mov (.t 28)), 3, []⟩]) (.seq (.seq (.reg false [⟨(some 29), .none, (.mov (.t 5)), 0, []⟩, ⟨(some 30), .none, (.mov (.t 3)), 1, []⟩, ⟨(some 31), .none, (.mov (.t 4)), 2, []⟩, ⟨(some 32), .none, (.call 48 [(.t 30), (.t 31)]), 3, []⟩, ⟨(some 33), .none, (.call 35 [(.t 29), (.t 32)]), 4, []⟩, ⟨(some 34), .none, (.un .not (.t 33)), 5, []⟩, ⟨(some 35), .none, (.mov (.t 34)), 6, []⟩, ⟨(some 36), (.some (35, false)), (.mov (.t 3)), 7, []⟩, ⟨(some 37), (.some (35, false)), (.call 44 [(.t 36)]), 8, []⟩, ⟨(some 38), (.some (35, false)), (.mov (.t 3)), 9, []⟩, ⟨(some 39), (.some (35, false)), (.call 43 [(.t 38)]), 10, []⟩, ⟨(some 40), (.some (35, false)), (.call 35 [(.t 37), (.t 39)]), 11, []⟩, ⟨(some 41), (.some (35, false)), (.un .not (.t 40)), 12, []⟩, ⟨(some 42), .none, (.pick (.t 35) (.c (.bool true)) (.t 41)), 13, []⟩]) (.cond (.t 42) (.seq (.reg false [⟨(some 2), .none, (.mov (.c (.bool false))), 0, []⟩]) .ret) .skip)) (.seq (.seq (.reg false [⟨(some 6), .none, (.mov (.c (.int .i64 0))), 0, []⟩]) (.block 0 (.loop (.seq (.seq (.reg false [⟨(some 43), .none, (.mov (.t 6)), 0, []⟩, ⟨(some 44), .none, (.mov (.t 3)), 1, []⟩, ⟨(some 45), .none, (.lenS (.t 44)), 2, []⟩, ⟨(some 46), .none, (.bin .lss (.t 43) (.t 45)), 3, []⟩, ⟨(some 47), .none, (.mov (.t 46)), 4, []⟩, ⟨(some 48), (.some (47, true)), (.mov (.t 3)), 5, []⟩, ⟨(some 49), (.some (47, true)), (.call 39 [(.t 48)]), 6, []⟩, ⟨(some 50), .none, (.pick (.t 47) (.t 49) (.c (.bool false))), 7, []⟩]) (.cond (.t 50) .skip (.exit 0))) (.seq (.block 1 (.seq (.reg false [⟨(some 53), .none, (.mov (.t 3)), 0, []⟩, ⟨(some 54), .none, (.mov (.t 6)), 1, []⟩, ⟨(some 55), .none, (.call 47 [(.t 53), (.t 54)]), 2, []⟩, ⟨(some 7), .none, (.mov (.t 55)), 3, []⟩]) (.seq (.seq (.reg false [⟨(some 56), .none, (.mov (.t 7)), 0, []⟩, ⟨(some 57), .none, (.mov (.t 4)), 1, []⟩, ⟨(some 58), .none, (.call 36 [(.t 56), (.t 57)]), 2, []⟩, ⟨(some 59), .none, (.mov (.t 5)), 3, []⟩, ⟨(some 60), .none, (.mov (.t 6)), 4, []⟩, ⟨(some 61), .none, (.call 36 [(.t 59), (.t 60)]), 5, []⟩, ⟨(some 62), .none, (.beq true (.t 58) (.t 61)), 6, []⟩, ⟨(some 63), .none, (.mov (.t 62)), 7, []⟩, ⟨(some 64), (.some (63, false)), (.mov (.t 7)), 8, []⟩, ⟨(some 65), (.some (63, false)), (.mov (.t 3)), 9, []⟩, ⟨(some 66), (.some (63, false)), (.mov (.t 6)), 10, []⟩, ⟨(some 67), (.some (63, false)), (.call 46 [(.t 65), (.t 66)]), 11, []⟩, ⟨(some 68), (.some (63, false)), (.call 35 [(.t 64), (.t 67)]), 12, []⟩, ⟨(some 69), (.some (63, false)), (.un .not (.t 68)), 13, []⟩, ⟨(some 70), .none, (.pick (.t 63) (.c (.bool true)) (.t 69)), 14, []⟩]) (.cond (.t 70) (.seq (.reg false [⟨(some 2), .none, (.mov (.c (.bool false))), 0, []⟩]) .ret) .skip)) (.seq (.seq (.reg false [⟨(some 8), .none, (.mov (.c (.int .i64 0))), 0, []⟩]) (.block 2 (.loop (.seq (.seq (.reg false [⟨(some 71), .none, (.mov (.t 8)), 0, []⟩, ⟨(some 72), .none, (.mov (.t 3)), 1, []⟩, ⟨(some 73), .none, (.mov (.t 6)), 2, []⟩, ⟨(some 74), .none, (.iadr 2 (.t 72) (.t 73)), 3, []⟩, ⟨(some 75), .none, (.fadr 0 (.t 74)), 4, []⟩, ⟨(some 76), .none, (.load 1 false (.t 75)), 5, []⟩, ⟨(some 77), .none, (.lenS (.t 76)), 6, []⟩, ⟨(some 78), .none, (.bin .lss (.t 71) (.t 77)), 7, []⟩]) (.cond (.t 78) .skip (.exit 2))) (.seq (.block 3 (.seq (.reg false [⟨(some 81), .none, (.mov (.t 7)), 0, []⟩, ⟨(some 82), .none, (.mov (.t 3)), 1, []⟩, ⟨(some 83), .none, (.mov (.t 6)), 2, []⟩, ⟨(some 84), .none, (.iadr 2 (.t 82) (.t 83)), 3, []⟩, ⟨(some 85), .none, (.fadr 0 (.t 84)), 4, []⟩, ⟨(some 86), .none, (.load 1 false (.t 85)), 5, []⟩, ⟨(some 87), .none, (.mov (.t 8)), 6, []⟩, ⟨(some 88), .none, (.iadr 1 (.t 86) (.t 87)), 7, []⟩, ⟨(some 89), .none, (.load 1 false (.t 88)), 8, []⟩, ⟨(some 90), .none, (.call 36 [(.t 81), (.t 89)]), 9, []⟩, ⟨(some 91), .none, (.un .not (.t 90)), 10, []⟩]) (.cond (.t 91) (.seq (.reg false [⟨(some 2), .none, (.mov (.c (.bool false))), 0, []⟩]) .ret) .skip))) (.reg false [⟨(some 79), .none, (.mov (.t 8)), 0, []⟩, ⟨(some 80), .none, (.bin .add (.t 79) (.c (.int .i64 1))), 1, []⟩, ⟨(some 8), .none, (.mov (.t 80)), 2, []⟩])))))) (.seq (.reg false [⟨(some 9), .none, (.mov (.c (.int .i64 0))), 0, []⟩]) (.block 4 (.loop (.seq (.seq (.reg false [⟨(some 92), .none, (.mov (.t 9)), 0, []⟩, ⟨(some 93), .none, (.mov (.t 3)), 1, []⟩, ⟨(some 94), .none, (.mov (.t 6)), 2, []⟩, ⟨(some 95), .none, (.iadr 2 (.t 93) (.t 94)), 3, []⟩, ⟨(some 96), .none, (.fadr 1 (.t 95)), 4, []⟩, ⟨(some 97), .none, (.load 1 false (.t 96)), 5, []⟩, ⟨(some 98), .none, (.lenS (.t 97)), 6, []⟩, ⟨(some 99), .none, (.bin .lss (.t 92) (.t 98)), 7, []⟩]) (.cond (.t 99) .skip (.exit 4))) (.seq (.block 5 (.seq (.reg false [⟨(some 102), .none, (.mov (.t 3)), 0, []⟩, ⟨(some 103), .none, (.mov (.t 3)), 1, []⟩, ⟨(some 104), .none, (.mov (.t 6)), 2, []⟩, ⟨(some 105), .none, (.iadr 2 (.t 103) (.t 104)), 3, []⟩, ⟨(some 106), .none, (.fadr 1 (.t 105)), 4, []⟩, ⟨(some 107), .none, (.load 1 false (.t 106)), 5, []⟩, ⟨(some 108), .none, (.mov (.t 9)), 6, []⟩, ⟨(some 109), .none, (.iadr 1 (.t 107) (.t 108)), 7, []⟩, ⟨(some 110), .none, (.load 1 false (.t 109)), 8, []⟩, ⟨(some 111), .none, (.call 47 [(.t 102), (.t 110)]), 9, []⟩, ⟨(some 10), .none, (.mov (.t 111)), 10, []⟩]) (.seq (.reg false [⟨(some 11), .none, (.mov (.c (.int .i64 0))), 0, []⟩]) (.block 6 (.loop (.seq (.seq (.reg false [⟨(some 112), .none, (.mov (.t 11)), 0, []⟩, ⟨(some 113), .none, (.mov (.t 10)), 1, []⟩, ⟨(some 114), .none, (.lenS (.t 113)), 2, []⟩, ⟨(some 115), .none, (.bin .lss (.t 112) (.t 114)), 3, []⟩]) (.cond (.t 115) .skip (.exit 6))) (.seq (.block 7 (.seq (.reg false [⟨(some 118), .none, (.mov (.t 7)), 0, []⟩, ⟨(some 119), .none, (.mov (.t 10)), 1, []⟩, ⟨(some 120), .none, (.mov (.t 11)), 2, []⟩, ⟨(some 121), .none, (.iadr 1 (.t 119) (.t 120)), 3, []⟩, ⟨(some 122), .none, (.load 1 false (.t 121)), 4, []⟩, ⟨(some 123), .none, (.call 36 [(.t 118), (.t 122)]), 5, []⟩, ⟨(some 124), .none, (.un .not (.t 123)), 6, []⟩]) (.cond (.t 124) (.seq (.reg false [⟨(some 2), .none, (.mov (.c (.bool false))), 0, []⟩]) .ret) .skip))) (.reg false [⟨(some 116), .none, (.mov (.t 11)), 0, []⟩, ⟨(some 117), .none, (.bin .add (.t 116) (.c (.int .i64 1))), 1, []⟩, ⟨(some 11), .none, (.mov (.t 117)), 2, []⟩])))))))) (.reg false [⟨(some 100), .none, (.mov (.t 9)), 0, []⟩, ⟨(some 101), .none, (.bin .add (.t 100) (.c (.int .i64 1))), 1, []⟩, ⟨(some 9), .none, (.mov (.t 101)), 2, []⟩])))))))))) (.reg false [⟨(some 51), .none, (.mov (.t 6)), 0, []⟩, ⟨(some 52), .none, (.bin .add (.t 51) (.c (.int .i64 1))), 1, []⟩, ⟨(some 6), .none, (.mov (.t 52)), 2, []⟩])))))) (.seq (.reg false [⟨(some 126), .none, (.mov (.t 0)), 0, []⟩, ⟨(some 127), .none, (.call 54 [(.t 126)]), 1, []⟩, ⟨(some 125), .none, (.mov (.t 127)), 2, []⟩, ⟨(some 128), .none, (.ext (.t 125) 0), 3, []⟩, ⟨(some 129), .none, (.ext (.t 125) 1), 4, []⟩, ⟨(some 12), .none, (.mov (.t 128)), 5, []⟩, ⟨(some 13), .none, (.mov (.t 129)), 6, []⟩]) (.seq (.reg false [⟨(some 130), .none, (.mov (.t 12)), 0, []⟩, ⟨(some 131), .none, (.mov (.t 13)), 1, []⟩, ⟨(some 132), .none, (.call 51 [(.t 130), (.t 131)]), 2, []⟩, ⟨(some 14), .none, (.mov (.t 132)), 3, []⟩]) (.seq (.seq (.reg false [⟨(some 133), .none, (.mov (.t 12)), 0, []⟩, ⟨(some 134), .none, (.call 39 [(.t 133)]), 1, []⟩, ⟨(some 135), .none, (.un .not (.t 134)), 2, []⟩, ⟨(some 136), .none, (.mov (.t 135)), 3, []⟩, ⟨(some 137), (.some (136, false)), (.mov (.t 13)), 4, []⟩, ⟨(some 138), (.some (136, false)), (.call 39 [(.t 137)]), 5, []⟩, ⟨(some 139), (.some (136, false)), (.un .not (.t 138)), 6, []⟩, ⟨(some 140), .none, (.pick (.t 136) (.c (.bool true)) (.t 139)), 7, []⟩]) (.cond (.t 140) (.seq (.reg false [⟨(some 141), .none, (.mov (.t 14)), 0, []⟩, ⟨(some 142), .none, (.lenS (.t 141)), 1, []⟩, ⟨(some 143), .none, (.bin .eql (.t 142) (.c (.int .i64 0))), 2, []⟩, ⟨(some 2), .none, (.mov (.t 143)), 3, []⟩]) .ret) .skip)) (.seq (.seq (.reg false [⟨(some 15), .none, (.mov (.c (.int .i64 0))), 0, []⟩]) (.block 8 (.loop (.seq (.seq (.reg false [⟨(some 144), .none, (.mov (.t 15)), 0, []⟩, ⟨(some 145), .none, (.mov (.t 12)), 1, []⟩, ⟨(some 146), .none, (.lenS (.t 145)), 2, []⟩, ⟨(some 147), .none, (.bin .lss (.t 144) (.t 146)), 3, []⟩]) (.cond (.t 147) .skip (.exit 8))) (.seq (.block 9 (.seq (.reg false [⟨(some 150), .none, (.mov (.t 12)), 0, []⟩, ⟨(some 151), .none, (.mov (.t 15)), 1, []⟩, ⟨(some 152), .none, (.call 46 [(.t 150), (.t 151)]), 2, []⟩, ⟨(some 16), .none, (.mov (.t 152)), 3, []⟩]) (.seq (.reg false [⟨(some 153), .none, (.mov (.t 14)), 0, []⟩, ⟨(some 154), .none, (.mov (.t 15)), 1, []⟩, ⟨(some 155), .none, (.call 47 [(.t 153), (.t 154)]), 2, []⟩, ⟨(some 17), .none, (.mov (.t 155)), 3, []⟩]) (.seq (.reg false [⟨(some 18), .none, (.mov (.c (.int .i64 0))), 0, []⟩]) (.block 10 (.loop (.seq (.seq (.reg false [⟨(some 156), .none, (.mov (.t 18)), 0, []⟩, ⟨(some 157), .none, (.mov (.t 16)), 1, []⟩, ⟨(some 158), .none, (.lenS (.t 157)), 2, []⟩, ⟨(some 159), .none, (.bin .lss (.t 156) (.t 158)), 3, []⟩]) (.cond (.t 159) .skip (.exit 10))) (.seq (.block 11 (.seq (.reg false [⟨(some 162), .none, (.mov (.t 17)), 0, []⟩, ⟨(some 163), .none, (.mov (.t 16)), 1, []⟩, ⟨(some 164), .none, (.mov (.t 18)), 2, []⟩, ⟨(some 165), .none, (.iadr 1 (.t 163) (.t 164)), 3, []⟩, ⟨(some 166), .none, (.load 1 false (.t 165)), 4, []⟩, ⟨(some 167), .none, (.call 36 [(.t 162), (.t 166)]), 5, []⟩, ⟨(some 168), .none, (.un .not (.t 167)), 6, []⟩]) (.cond (.t 168) (.seq (.reg false [⟨(some 2), .none, (.mov (.c (.bool false))), 0, []⟩]) .ret) .skip))) (.reg false [⟨(some 160), .none, (.mov (.t 18)), 0, []⟩, ⟨(some 161), .none, (.bin .add (.t 160) (.c (.int .i64 1))), 1, []⟩, ⟨(some 18), .none, (.mov (.t 161)), 2, []⟩]))))))))) (.reg false [⟨(some 148), .none, (.mov (.t 15)), 0, []⟩, ⟨(some 149), .none, (.bin .add (.t 148) (.c (.int .i64 1))), 1, []⟩, ⟨(some 15), .none, (.mov (.t 149)), 2, []⟩])))))) (.seq (.reg false [⟨(some 169), .none, (.mov (.t 14)), 0, []⟩, ⟨(some 170), .none, (.call 39 [(.t 169)]), 1, []⟩, ⟨(some 171), .none, (.mov (.t 170)), 2, []⟩, ⟨(some 172), (.some (171, true)), (.mov (.t 14)), 3, []⟩, ⟨(some 173), (.some (171, true)), (.lenS (.t 172)), 4, []⟩, ⟨(some 174), (.some (171, true)), (.mov (.t 12)), 5, []⟩, ⟨(some 175), (.some (171, true)), (.lenS (.t 174)), 6, []⟩, ⟨(some 176), (.some (171, true)), (.bin .eql (.t 173) (.t 175)), 7, []⟩, ⟨(some 177), (.some (171, true)), (.mov (.t 176)), 8, []⟩, ⟨(some 178), (.some (177, false)), (.mov (.t 14)), 9, []⟩, ⟨(some 179), (.some (177, false)), (.lenS (.t 178)), 10, []⟩, ⟨(some 180), (.some (177, false)), (.mov (.t 13)), 11, []⟩, ⟨(some 181), (.some (177, false)), (.lenS (.t 180)), 12, []⟩, ⟨(some 182), (.some (177, false)), (.bin .eql (.t 179) (.t 181)), 13, []⟩, ⟨(some 183), (.some (171, true)), (.pick (.t 177) (.c (.bool true)) (.t 182)), 14, []⟩, ⟨(some 184), .none, (.pick (.t 171) (.t 183) (.c (.bool false))), 15, []⟩, ⟨(some 2), .none, (.mov (.t 184)), 16, []⟩]) .ret))))))))))), [(.t 2)]⟩
theorem k14 : EE.fns 14 = some c14 := by kernel_rfl
def c33 : CF := ⟨6, (.seq (.reg false [⟨(some 2), .none, (.mov (.c (.bool false))), 0, []⟩]) (.seq (.reg false [⟨(some 3), .none, (.mov (.t 0)), 0, []⟩, ⟨(some 4), .none, (.lenS (.t 3)), 1, []⟩, ⟨(some 5), .none, (.bin .gtr (.t 4) (.c (.int .i64 1048576))), 2, []⟩, ⟨(some 2), .none, (.mov (.t 5)), 3, []⟩]) .ret)), [(.t 2)]⟩
theorem k33 : EE.fns 33 = some c33 := by kernel_rfl
def c35 : CF := ⟨26, (.seq (.reg false [⟨(some 4), .none, (.mov (.c (.bool false))), 0, []⟩]) (.seq (.seq (.reg false [⟨(some 6), .none, (.mov (.t 0)), 0, []⟩, ⟨(some 7), .none, (.lenS (.t 6)), 1, []⟩, ⟨(some 8), .none, (.mov (.t 1)), 2, []⟩, ⟨(some 9), .none, (.lenS (.t 8)), 3, []⟩, ⟨(some 10), .none, (.bin .neq (.t 7) (.t 9)), 4, []⟩]) (.cond (.t 10) (.seq (.reg false [⟨(some 4), .none, (.mov (.c (.bool false))), 0, []⟩]) .ret) .skip)) (.seq (.seq (.reg false [⟨(some 5), .none, (.mov (.c (.int .i64 0))), 0, []⟩]) (.block 0 (.loop (.seq (.seq (.reg false [⟨(some 11), .none, (.mov (.t 5)), 0, []⟩, ⟨(some 12), .none, (.mov (.t 0)), 1, []⟩, ⟨(some 13), .none, (.lenS (.t 12)), 2, []⟩, ⟨(some 14), .none, (.bin .lss (.t 11) (.t 13)), 3, []⟩]) (.cond (.t 14) .skip (.exit 0))) (.seq (.block 1 (.seq (.reg true [⟨(some 17), .none, (.mov (.t 0)), 0, []⟩, ⟨(some 18), .none, (.mov (.t 5)), 1, []⟩, ⟨(some 19), .none, (.iadr 1 (.t 17) (.t 18)), 2, [0, 1]⟩, ⟨(some 20), .none, (.load 1 false (.t 19)), 3, [2, 0, 1]⟩, ⟨(some 21), .none, (.mov (.t 1)), 4, []⟩, ⟨(some 22), .none, (.mov (.t 5)), 5, []⟩, ⟨(some 23), .none, (.iadr 1 (.t 21) (.t 22)), 6, [4, 5]⟩, ⟨(some 24), .none, (.load 1 false (.t 23)), 7, [6, 4, 5]⟩, ⟨(some 25), .none, (.bin .neq (.t 20) (.t 24)), 8, [3, 2, 0, 1, 7, 6, 4, 5]⟩]) (.cond (.t 25) (.seq (.reg false [⟨(some 4), .none, (.mov (.c (.bool false))), 0, []⟩]) .ret) .skip))) (.reg false [⟨(some 15), .none, (.mov (.t 5)), 0, []⟩, ⟨(some 16), .none, (.bin .add (.t 15) (.c (.int .i64 1))), 1, []⟩, ⟨(some 5), .none, (.mov (.t 16)), 2, []⟩])))))) (.seq (.reg false [⟨(some 4), .none, (.mov (.c (.bool true))), 0, []⟩]) .ret)))), [(.t 4)]⟩
theorem k35 : EE.fns 35 = some c35 := by kernel_rfl
def c36 : CF := ⟨18, (.seq (.reg false [⟨(some 4), .none, (.mov (.c (.bool false))), 0, []⟩]) (.seq (.seq (.reg false [⟨(some 5), .none, (.mov (.c (.int .i64 0))), 0, []⟩]) (.block 0 (.loop (.seq (.seq (.reg false [⟨(some 6), .none, (.mov (.t 5)), 0, []⟩, ⟨(some 7), .none, (.mov (.t 0)), 1, []⟩, ⟨(some 8), .none, (.lenS (.t 7)), 2, []⟩, ⟨(some 9), .none, (.bin .lss (.t 6) (.t 8)), 3, []⟩]) (.cond (.t 9) .skip (.exit 0))) (.seq (.block 1 (.seq (.reg false [⟨(some 12), .none, (.mov (.t 0)), 0, []⟩, ⟨(some 13), .none, (.mov (.t 5)), 1, []⟩, ⟨(some 14), .none, (.iadr 1 (.t 12) (.t 13)), 2, []⟩, ⟨(some 15), .none, (.load 1 false (.t 14)), 3, []⟩, ⟨(some 16), .none, (.mov (.t 1)), 4, []⟩, ⟨(some 17), .none, (.bin .eql (.t 15) (.t 16)), 5, []⟩]) (.cond (.t 17) (.seq (.reg false [⟨(some 4), .none, (.mov (.c (.bool true))), 0, []⟩]) .ret) .skip))) (.reg false [⟨(some 10), .none, (.mov (.t 5)), 0, []⟩, ⟨(some 11), .none, (.bin .add (.t 10) (.c (.int .i64 1))), 1, []⟩, ⟨(some 5), .none, (.mov (.t 11)), 2, []⟩])))))) (.seq (.reg false [⟨(some 4), .none, (.mov (.c (.bool false))), 0, []⟩]) .ret))), [(.t 4)]⟩
theorem k36 : EE.fns 36 = some c36 := by kernel_rfl
def c53 : CF := ⟨13, (.seq (.reg false [⟨(some 2), .none, (.mov (.c (.slice .none 0 0))), 0, []⟩, ⟨(some 3), .none, (.mov (.c (.int .i64 0))), 1, []⟩]) (.seq (.reg false [⟨(some 6), .none, (.mov (.t 0)), 0, []⟩, ⟨(some 7), .none, (.call 67 [(.t 6)]), 1, []⟩, ⟨(some 4), .none, (.mov (.t 7)), 2, []⟩]) (.seq (.reg false [⟨(some 8), .none, (.mov (.t 4)), 0, []⟩, ⟨(some 9), .none, (.call 68 [(.t 8), (.c (.int .i64 6))]), 1, []⟩, ⟨(some 5), .none, (.mov (.t 9)), 2, []⟩]) (.seq (.reg false [⟨(some 10), .none, (.mov (.t 4)), 0, []⟩, ⟨(some 11), .none, (.call 83 [(.t 10)]), 1, []⟩, ⟨(some 12), .none, (.mov (.t 5)), 2, []⟩, ⟨(some 2), .none, (.mov (.t 11)), 3, []⟩, ⟨(some 3), .none, (.mov (.t 12)), 4, []⟩]) .ret)))), [(.t 2), (.t 3)]⟩
theorem k53 : EE.fns 53 = some c53 := by kernel_rfl
def c54 : CF := ⟨13, (.seq (.reg false [⟨(some 2), .none, (.mov (.c (.slice .none 0 0))), 0, []⟩, ⟨(some 3), .none, (.mov (.c (.slice .none 0 0))), 1, []⟩]) (.seq (.reg false [⟨(some 6), .none, (.mov (.t 0)), 0, []⟩, ⟨(some 7), .none, (.call 67 [(.t 6)]), 1, []⟩, ⟨(some 4), .none, (.mov (.t 7)), 2, []⟩]) (.seq (.reg false [⟨(some 8), .none, (.mov (.t 4)), 0, []⟩, ⟨(some 9), .none, (.call 83 [(.t 8)]), 1, []⟩, ⟨(some 5), .none, (.mov (.t 9)), 2, []⟩]) (.seq (.reg false [⟨(some 10), .none, (.mov (.t 5)), 0, []⟩, ⟨(some 11), .none, (.mov (.t 4)), 1, []⟩, ⟨(some 12), .none, (.call 83 [(.t 11)]), 2, []⟩, ⟨(some 2), .none, (.mov (.t 10)), 3, []⟩, ⟨(some 3), .none, (.mov (.t 12)), 4, []⟩]) .ret)))), [(.t 2), (.t 3)]⟩
theorem k54 : EE.fns 54 = some c54 := by kernel_rfl
def c67 : CF := ⟨32, (.seq (.reg false [⟨(some 2), .none, (.mov (.c (.pointer .none))), 0, []⟩]) (.seq (.reg false [⟨(some 5), .none, (.mov (.t 0)), 0, []⟩, ⟨(some 6), .none, (.lenS (.t 5)), 1, []⟩, ⟨(some 7), .none, (.bin .add (.c (.int .i64 10101)) (.t 6)), 2, []⟩, ⟨(some 3), .none, (.mov (.t 7)), 3, []⟩]) (.seq (.seq (.reg false [⟨(some 4), .none, (.mov (.c (.int .i64 0))), 0, []⟩]) (.block 0 (.loop (.seq (.seq (.reg false [⟨(some 8), .none, (.mov (.t 4)), 0, []⟩, ⟨(some 9), .none, (.mov (.t 0)), 1, []⟩, ⟨(some 10), .none, (.lenS (.t 9)), 2, []⟩, ⟨(some 11), .none, (.bin .lss (.t 8) (.t 10)), 3, []⟩, ⟨(some 12), .none, (.mov (.t 11)), 4, []⟩, ⟨(some 13), (.some (12, true)), (.mov (.t 4)), 5, []⟩, ⟨(some 14), (.some (12, true)), (.bin .lss (.t 13) (.c (.int .i64 4000))), 6, []⟩, ⟨(some 15), .none, (.pick (.t 12) (.t 14) (.c (.bool false))), 7, []⟩]) (.cond (.t 15) .skip (.exit 0))) (.seq (.block 1 (.reg false [⟨(some 18), .none, (.mov (.t 3)), 0, []⟩, ⟨(some 19), .none, (.bin .mul (.t 18) (.c (.int .i64 131))), 1, []⟩, ⟨(some 20), .none, (.mov (.t 0)), 2, []⟩, ⟨(some 21), .none, (.mov (.t 4)), 3, []⟩, ⟨(some 22), .none, (.iadr 1 (.t 20) (.t 21)), 4, []⟩, ⟨(some 23), .none, (.load 1 false (.t 22)), 5, []⟩, ⟨(some 24), .none, (.toInt .i64 (.t 23)), 6, []⟩, ⟨(some 25), .none, (.bin .add (.t 19) (.t 24)), 7, []⟩, ⟨(some 26), .none, (.bin .add (.t 25) (.c (.int .i64 7))), 8, []⟩, ⟨(some 27), .none, (.bin .and (.t 26) (.c (.int .i64 1073741823))), 9, []⟩, ⟨(some 3), .none, (.mov (.t 27)), 10, []⟩])) (.reg false [⟨(some 16), .none, (.mov (.t 4)), 0, []⟩, ⟨(some 17), .none, (.bin .add (.t 16) (.c (.int .i64 1))), 1, []⟩, ⟨(some 4), .none, (.mov (.t 17)), 2, []⟩])))))) (.seq (.reg false [⟨(some 28), .none, (.mov (.t 0)), 0, []⟩, ⟨(some 29), .none, (.mov (.t 3)), 1, []⟩, ⟨(some 30), .none, (.build [(.slice .none 0 0), (.int .i64 0), (.int .i64 0)] [(0, (1, (.t 28))), (2, (1, (.t 29)))]), 2, []⟩, ⟨(some 31), .none, (.boxO (.t 30)), 3, []⟩, ⟨(some 2), .none, (.mov (.t 31)), 4, []⟩]) .ret)))), [(.t 2)]⟩
theorem k67 : EE.fns 67 = some c67 := by kernel_rfl
def c68 : CF := ⟨37, (.seq (.reg false [⟨(some 4), .none, (.mov (.c (.int .i64 0))), 0, []⟩]) (.seq (.seq (.reg false [⟨(some 9), .none, (.mov (.t 1)), 0, []⟩, ⟨(some 10), .none, (.bin .leq (.t 9) (.c (.int .i64 0))), 1, []⟩]) (.cond (.t 10) (.seq (.reg false [⟨(some 4), .none, (.mov (.c (.int .i64 0))), 0, []⟩]) .ret) .skip)) (.seq (.seq (.reg false [⟨(some 11), .none, (.mov (.t 1)), 0, []⟩, ⟨(some 12), .none, (.bin .leq (.t 11) (.c (.int .i64 256))), 1, []⟩]) (.cond (.t 12) (.seq (.reg false [⟨(some 13), .none, (.mov (.t 0)), 0, []⟩, ⟨(some 14), .none, (.call 89 [(.t 13)]), 1, []⟩, ⟨(some 15), .none, (.mov (.t 1)), 2, []⟩, ⟨(some 16), .none, (.bin .rem (.t 14) (.t 15)), 3, []⟩, ⟨(some 4), .none, (.mov (.t 16)), 4, []⟩]) .ret) .skip)) (.seq (.reg false [⟨(some 17), .none, (.mov (.t 0)), 0, []⟩, ⟨(some 18), .none, (.call 89 [(.t 17)]), 1, []⟩, ⟨(some 5), .none, (.mov (.t 18)), 2, []⟩]) (.seq (.reg false [⟨(some 19), .none, (.mov (.t 0)), 0, []⟩, ⟨(some 20), .none, (.call 89 [(.t 19)]), 1, []⟩, ⟨(some 6), .none, (.mov (.t 20)), 2, []⟩]) (.seq (.reg false [⟨(some 21), .none, (.mov (.t 0)), 0, []⟩, ⟨(some 22), .none, (.call 89 [(.t 21)]), 1, []⟩, ⟨(some 7), .none, (.mov (.t 22)), 2, []⟩]) (.seq (.reg false [⟨(some 23), .none, (.mov (.t 0)), 0, []⟩, ⟨(some 24), .none, (.call 89 [(.t 23)]), 1, []⟩, ⟨(some 8), .none, (.mov (.t 24)), 2, []⟩]) (.seq (.reg false [⟨(some 25), .none, (.mov (.t 5)), 0, []⟩, ⟨(some 26), .none, (.bin .mul (.t 25) (.c (.int .i64 16777216))), 1, []⟩, ⟨(some 27), .none, (.mov (.t 6)), 2, []⟩, ⟨(some 28), .none, (.bin .mul (.t 27) (.c (.int .i64 65536))), 3, []⟩, ⟨(some 29), .none, (.bin .add (.t 26) (.t 28)), 4, []⟩, ⟨(some 30), .none, (.mov (.t 7)), 5, []⟩, ⟨(some 31), .none, (.bin .mul (.t 30) (.c (.int .i64 256))), 6, []⟩, ⟨(some 32), .none, (.bin .add (.t 29) (.t 31)), 7, []⟩, ⟨(some 33), .none, (.mov (.t 8)), 8, []⟩, ⟨(some 34), .none, (.bin .add (.t 32) (.t 33)), 9, []⟩, ⟨(some 35), .none, (.mov (.t 1)), 10, []⟩, ⟨(some 36), .none, (.bin .rem (.t 34) (.t 35)), 11, []⟩, ⟨(some 4), .none, (.mov (.t 36)), 12, []⟩]) .ret)))))))), [(.t 4)]⟩
theorem k68 : EE.fns 68 = some c68 := by kernel_rfl
def c70 : CF := ⟨9, (.seq (.reg false [⟨(some 4), .none, (.mov (.c (.bool false))), 0, []⟩]) (.seq (.reg false [⟨(some 5), .none, (.mov (.t 0)), 0, []⟩, ⟨(some 6), .none, (.mov (.t 1)), 1, []⟩, ⟨(some 7), .none, (.call 68 [(.t 5), (.t 6)]), 2, []⟩, ⟨(some 8), .none, (.bin .eql (.t 7) (.c (.int .i64 0))), 3, []⟩, ⟨(some 4), .none, (.mov (.t 8)), 4, []⟩]) .ret)), [(.t 4)]⟩
theorem k70 : EE.fns 70 = some c70 := by kernel_rfl
def c83 : CF := ⟨83, (.seq (.reg false [⟨(some 2), .none, (.mov (.c (.slice .none 0 0))), 0, []⟩]) (.seq (.reg false [⟨(some 9), .none, (.mkO 0 2 [(.slice .none 0 0), (.slice .none 0 0)] []), 0, []⟩, ⟨(some 3), .none, (.mov (.t 9)), 1, []⟩]) (.seq (.reg false [⟨(some 10), .none, (.mov (.t 0)), 0, []⟩, ⟨(some 11), .none, (.call 68 [(.t 10), (.c (.int .i64 6))]), 1, []⟩, ⟨(some 4), .none, (.mov (.t 11)), 2, []⟩]) (.seq (.seq (.reg false [⟨(some 5), .none, (.mov (.c (.int .i64 0))), 0, []⟩]) (.block 0 (.loop (.seq (.seq (.reg false [⟨(some 12), .none, (.mov (.t 5)), 0, []⟩, ⟨(some 13), .none, (.mov (.t 4)), 1, []⟩, ⟨(some 14), .none, (.bin .lss (.t 12) (.t 13)), 2, []⟩]) (.cond (.t 14) .skip (.exit 0))) (.seq (.block 1 (.seq (.reg false [⟨(some 17), .none, (.build [(.slice .none 0 0), (.slice .none 0 0)] []), 0, []⟩, ⟨(some 6), .none, (.newV [(.slice .none 0 0), (.slice .none 0 0)]), 1, []⟩, ⟨.none, .none, (.store 2 (.t 6) (.t 17)), 2, []⟩]) (.seq (.seq (.reg false [⟨(some 7), .none, (.mov (.c (.int .i64 0))), 0, []⟩]) (.block 2 (.loop (.seq (.seq (.reg false [⟨(some 18), .none, (.mov (.t 7)), 0, []⟩, ⟨(some 19), .none, (.bin .lss (.t 18) (.c (.int .i64 5))), 1, []⟩]) (.cond (.t 19) .skip (.exit 2))) (.seq (.block 3 (.seq (.reg false [⟨(some 22), .none, (.mov (.t 0)), 0, []⟩, ⟨(some 23), .none, (.call 70 [(.t 22), (.c (.int .i64 3))]), 1, []⟩]) (.cond (.t 23) (.reg false [⟨(some 24), .none, (.fadr 0 (.t 6)), 0, []⟩, ⟨(some 25), .none, (.load 1 false (.t 24)), 1, []⟩, ⟨(some 26), .none, (.mov (.t 7)), 2, []⟩, ⟨(some 27), .none, (.mkV 1 1 [(.int .i64 0)] [(0, (.t 26))]), 3, []⟩, ⟨(some 28), .none, (.app 1 8 (.t 25) (.t 27)), 4, []⟩, ⟨(some 29), .none, (.fadr 0 (.t 6)), 5, []⟩, ⟨.none, .none, (.store 1 (.t 29) (.t 28)), 6, []⟩]) .skip))) (.reg false [⟨(some 20), .none, (.mov (.t 7)), 0, []⟩, ⟨(some 21), .none, (.bin .add (.t 20) (.c (.int .i64 1))), 1, []⟩, ⟨(some 7), .none, (.mov (.t 21)), 2, []⟩])))))) (.seq (.seq (.reg false [⟨(some 8), .none, (.mov (.c (.int .i64 0))), 0, []⟩]) (.block 4 (.loop (.seq (.seq (.reg false [⟨(some 30), .none, (.mov (.t 8)), 0, []⟩, ⟨(some 31), .none, (.mov (.t 4)), 1, []⟩, ⟨(some 32), .none, (.bin .lss (.t 30) (.t 31)), 2, []⟩]) (.cond (.t 32) .skip (.exit 4))) (.seq (.block 5 (.seq (.reg false [⟨(some 35), .none, (.mov (.t 0)), 0, []⟩, ⟨(some 36), .none, (.call 70 [(.t 35), (.c (.int .i64 5))]), 1, []⟩]) (.cond (.t 36) (.reg false [⟨(some 37), .none, (.fadr 1 (.t 6)), 0, []⟩, ⟨(some 38), .none, (.load 1 false (.t 37)), 1, []⟩, ⟨(some 39), .none, (.mov (.t 8)), 2, []⟩, ⟨(some 40), .none, (.mkV 1 1 [(.int .i64 0)] [(0, (.t 39))]), 3, []⟩, ⟨(some 41), .none, (.app 1 8 (.t 38) (.t 40)), 4, []⟩, ⟨(some 42), .none, (.fadr 1 (.t 6)), 5, []⟩, ⟨.none, .none, (.store 1 (.t 42) (.t 41)), 6, []⟩]) .skip))) (.reg false [⟨(some 33), .none, (.mov (.t 8)), 0, []⟩, ⟨(some 34), .none, (.bin .add (.t 33) (.c (.int .i64 1))), 1, []⟩, ⟨(some 8), .none, (.mov (.t 34)), 2, []⟩])))))) (.reg false [⟨(some 43), .none, (.mov (.t 3)), 0, []⟩, ⟨(some 44), .none, (.load 2 true (.t 6)), 1, []⟩, ⟨(some 45), .none, (.mkV 1 2 [(.slice .none 0 0), (.slice .none 0 0)] [(0, (.t 44))]), 2, []⟩, ⟨(some 46), .none, (.app 2 48 (.t 43) (.t 45)), 3, []⟩, ⟨(some 3), .none, (.mov (.t 46)), 4, []⟩]))))) (.reg false [⟨(some 15), .none, (.mov (.t 5)), 0, []⟩, ⟨(some 16), .none, (.bin .add (.t 15) (.c (.int .i64 1))), 1, []⟩, ⟨(some 5), .none, (.mov (.t 16)), 2, []⟩])))))) (.seq (.seq (.reg false [⟨(some 47), .none, (.mov (.t 4)), 0, []⟩, ⟨(some 48), .none, (.bin .gtr (.t 47) (.c (.int .i64 0))), 1, []⟩, ⟨(some 49), .none, (.mov (.t 48)), 2, []⟩, ⟨(some 50), (.some (49, true)), (.mov (.t 0)), 3, []⟩, ⟨(some 51), (.some (49, true)), (.call 70 [(.t 50), (.c (.int .i64 12))]), 4, []⟩, ⟨(some 52), .none, (.pick (.t 49) (.t 51) (.c (.bool false))), 5, []⟩]) (.cond (.t 52) (.reg true [⟨(some 53), .none, (.mov (.t 3)), 0, []⟩, ⟨(some 54), .none, (.mov (.t 3)), 1, []⟩, ⟨(some 55), .none, (.iadr 2 (.t 54) (.c (.int .i64 0))), 2, [1]⟩, ⟨(some 56), .none, (.fadr 1 (.t 55)), 3, [2, 1]⟩, ⟨(some 57), .none, (.load 1 false (.t 56)), 4, [3, 2, 1]⟩, ⟨(some 58), .none, (.mov (.t 0)), 5, []⟩, ⟨(some 59), .none, (.call 68 [(.t 58), (.c (.int .i64 8))]), 6, [5]⟩, ⟨(some 60), .none, (.mkV 1 1 [(.int .i64 0)] [(0, (.t 59))]), 7, [6, 5]⟩, ⟨(some 61), .none, (.app 1 8 (.t 57) (.t 60)), 8, [4, 3, 2, 1, 7, 6, 5]⟩, ⟨(some 62), .none, (.iadr 2 (.t 53) (.c (.int .i64 0))), 9, [0, 1, 2, 3, 4, 5, 6, 7, 8]⟩, ⟨(some 63), .none, (.fadr 1 (.t 62)), 10, [9, 0, 1, 2, 3, 4, 5, 6, 7, 8]⟩, ⟨.none, .none, (.store 1 (.t 63) (.t 61)), 11, [10, 9, 0, 1, 2, 3, 4, 5, 6, 7, 8]⟩]) .skip)) (.seq (.seq (.reg false [⟨(some 64), .none, (.mov (.t 4)), 0, []⟩, ⟨(some 65), .none, (.bin .gtr (.t 64) (.c (.int .i64 0))), 1, []⟩, ⟨(some 66), .none, (.mov (.t 65)), 2, []⟩, ⟨(some 67), (.some (66, true)), (.mov (.t 0)), 3, []⟩, ⟨(some 68), (.some (66, true)), (.call 70 [(.t 67), (.c (.int .i64 12))]), 4, []⟩, ⟨(some 69), .none, (.pick (.t 66) (.t 68) (.c (.bool false))), 5, []⟩]) (.cond (.t 69) (.reg true [⟨(some 70), .none, (.mov (.t 3)), 0, []⟩, ⟨(some 71), .none, (.mov (.t 3)), 1, []⟩, ⟨(some 72), .none, (.iadr 2 (.t 71) (.c (.int .i64 0))), 2, [1]⟩, ⟨(some 73), .none, (.fadr 0 (.t 72)), 3, [2, 1]⟩, ⟨(some 74), .none, (.load 1 false (.t 73)), 4, [3, 2, 1]⟩, ⟨(some 75), .none, (.mov (.t 0)), 5, []⟩, ⟨(some 76), .none, (.mkO 3 1 [(.int .i64 0)] [(0, (.c (.int .i64 30))), (1, (.c (.int .i64 31))), (2, (.c (.int .i64 0)))]), 6, []⟩, ⟨(some 77), .none, (.call 94 [(.t 75), (.t 76)]), 7, [5, 6]⟩, ⟨(some 78), .none, (.mkV 1 1 [(.int .i64 0)] [(0, (.t 77))]), 8, [7, 5, 6]⟩, ⟨(some 79), .none, (.app 1 8 (.t 74) (.t 78)), 9, [4, 3, 2, 1, 8, 7, 5, 6]⟩, ⟨(some 80), .none, (.iadr 2 (.t 70) (.c (.int .i64 0))), 10, [0, 1, 2, 3, 4, 5, 6, 7, 8, 9]⟩, ⟨(some 81), .none, (.fadr 0 (.t 80)), 11, [10, 0, 1, 2, 3, 4, 5, 6, 7, 8, 9]⟩, ⟨.none, .none, (.store 1 (.t 81) (.t 79)), 12, [11, 10, 0, 1, 2, 3, 4, 5, 6, 7, 8, 9]⟩]) .skip)) (.seq (.reg false [⟨(some 82), .none, (.mov (.t 3)), 0, []⟩, ⟨(some 2), .none, (.mov (.t 82)), 1, []⟩]) .ret))))))), [(.t 2)]⟩
theorem k83 : EE.fns 83 = some c83 := by kernel_rfl
def c89 : CF := ⟨58, (.seq (.reg false [⟨(some 2), .none, (.mov (.c (.int .i64 0))), 0, []⟩]) (.seq (.reg false [⟨(some 4), .none, (.mov (.t 0)), 0, []⟩, ⟨(some 5), .none, (.mov (.t 0)), 1, []⟩, ⟨(some 6), .none, (.nilc (.t 5)), 2, []⟩, ⟨(some 7), .none, (.fadr 2 (.t 6)), 3, []⟩, ⟨(some 8), .none, (.load 1 false (.t 7)), 4, []⟩, ⟨(some 9), .none, (.bin .mul (.t 8) (.c (.int .i64 6364136223846793005))), 5, []⟩, ⟨(some 10), .none, (.bin .add (.t 9) (.c (.int .i64 1442695040888963407))), 6, []⟩, ⟨(some 11), .none, (.nilc (.t 4)), 7, []⟩, ⟨(some 12), .none, (.fadr 2 (.t 11)), 8, []⟩, ⟨.none, .none, (.store 1 (.t 12) (.t 10)), 9, []⟩]) (.seq (.reg true [⟨(some 13), .none, (.mov (.t 0)), 0, []⟩, ⟨(some 14), .none, (.nilc (.t 13)), 1, [0]⟩, ⟨(some 15), .none, (.fadr 2 (.t 14)), 2, [1, 0]⟩, ⟨(some 16), .none, (.load 1 false (.t 15)), 3, [2, 1, 0]⟩, ⟨(some 17), .none, (.bin .shr (.t 16) (.c (.int .u64 33))), 4, [3, 2, 1, 0]⟩, ⟨(some 18), .none, (.mov (.t 0)), 5, []⟩, ⟨(some 19), .none, (.nilc (.t 18)), 6, [5]⟩, ⟨(some 20), .none, (.fadr 2 (.t 19)), 7, [6, 5]⟩, ⟨(some 21), .none, (.load 1 false (.t 20)), 8, [7, 6, 5]⟩, ⟨(some 22), .none, (.bin .shr (.t 21) (.c (.int .u64 45))), 9, [8, 7, 6, 5]⟩, ⟨(some 23), .none, (.bin .xor (.t 17) (.t 22)), 10, [4, 3, 2, 1, 0, 9, 8, 7, 6, 5]⟩, ⟨(some 24), .none, (.bin .and (.t 23) (.c (.int .i64 255))), 11, [10, 4, 3, 2, 1, 0, 9, 8, 7, 6, 5]⟩, ⟨(some 3), .none, (.mov (.t 24)), 12, [11, 10, 4, 3, 2, 1, 0, 9, 8, 7, 6, 5]⟩]) (.seq (.seq (.reg true [⟨(some 25), .none, (.mov (.t 0)), 0, []⟩, ⟨(some 26), .none, (.nilc (.t 25)), 1, [0]⟩, ⟨(some 27), .none, (.fadr 1 (.t 26)), 2, [1, 0]⟩, ⟨(some 28), .none, (.load 1 false (.t 27)), 3, [2, 1, 0]⟩, ⟨(some 29), .none, (.mov (.t 0)), 4, []⟩, ⟨(some 30), .none, (.nilc (.t 29)), 5, [4]⟩, ⟨(some 31), .none, (.fadr 0 (.t 30)), 6, [5, 4]⟩, ⟨(some 32), .none, (.load 1 false (.t 31)), 7, [6, 5, 4]⟩, ⟨(some 33), .none, (.lenS (.t 32)), 8, [7, 6, 5, 4]⟩, ⟨(some 34), .none, (.bin .lss (.t 28) (.t 33)), 9, [3, 2, 1, 0, 8, 7, 6, 5, 4]⟩]) (.cond (.t 34) (.seq (.reg true [⟨(some 35), .none, (.mov (.t 3)), 0, []⟩, ⟨(some 36), .none, (.mov (.t 0)), 1, []⟩, ⟨(some 37), .none, (.nilc (.t 36)), 2, [1]⟩, ⟨(some 38), .none, (.fadr 0 (.t 37)), 3, [2, 1]⟩, ⟨(some 39), .none, (.load 1 false (.t 38)), 4, [3, 2, 1]⟩, ⟨(some 40), .none, (.mov (.t 0)), 5, []⟩, ⟨(some 41), .none, (.nilc (.t 40)), 6, [5]⟩, ⟨(some 42), .none, (.fadr 1 (.t 41)), 7, [6, 5]⟩, ⟨(some 43), .none, (.load 1 false (.t 42)), 8, [7, 6, 5]⟩, ⟨(some 44), .none, (.iadr 1 (.t 39) (.t 43)), 9, [4, 3, 2, 1, 8, 7, 6, 5]⟩, ⟨(some 45), .none, (.load 1 false (.t 44)), 10, [9, 4, 3, 2, 1, 8, 7, 6, 5]⟩, ⟨(some 46), .none, (.toInt .i64 (.t 45)), 11, [10, 9, 4, 3, 2, 1, 8, 7, 6, 5]⟩, ⟨(some 47), .none, (.bin .add (.t 35) (.t 46)), 12, [0, 11, 10, 9, 4, 3, 2, 1, 8, 7, 6, 5]⟩, ⟨(some 48), .none, (.bin .and (.t 47) (.c (.int .i64 255))), 13, [12, 0, 11, 10, 9, 4, 3, 2, 1, 8, 7, 6, 5]⟩, ⟨(some 3), .none, (.mov (.t 48)), 14, [13, 12, 0, 11, 10, 9, 4, 3, 2, 1, 8, 7, 6, 5]⟩]) (.reg false [⟨(some 49), .none, (.mov (.t 0)), 0, []⟩, ⟨(some 50), .none, (.mov (.t 0)), 1, []⟩, ⟨(some 51), .none, (.nilc (.t 50)), 2, []⟩, ⟨(some 52), .none, (.fadr 1 (.t 51)), 3, []⟩, ⟨(some 53), .none, (.load 1 false (.t 52)), 4, []⟩, ⟨(some 54), .none, (.bin .add (.t 53) (.c (.int .i64 1))), 5, []⟩, ⟨(some 55), .none, (.nilc (.t 49)), 6, []⟩, ⟨(some 56), .none, (.fadr 1 (.t 55)), 7, []⟩, ⟨.none, .none, (.store 1 (.t 56) (.t 54)), 8, []⟩])) .skip)) (.seq (.reg false [⟨(some 57), .none, (.mov (.t 3)), 0, []⟩, ⟨(some 2), .none, (.mov (.t 57)), 1, []⟩]) .ret))))), [(.t 2)]⟩
theorem k89 : EE.fns 89 = some c89 := by kernel_rfl
def c94 : CF := ⟨12, (.seq (.reg false [⟨(some 4), .none, (.mov (.c (.int .i64 0))), 0, []⟩]) (.seq (.reg false [⟨(some 5), .none, (.mov (.t 1)), 0, []⟩, ⟨(some 6), .none, (.mov (.t 0)), 1, []⟩, ⟨(some 7), .none, (.mov (.t 1)), 2, []⟩, ⟨(some 8), .none, (.lenS (.t 7)), 3, []⟩, ⟨(some 9), .none, (.call 68 [(.t 6), (.t 8)]), 4, []⟩, ⟨(some 10), .none, (.iadr 1 (.t 5) (.t 9)), 5, []⟩, ⟨(some 11), .none, (.load 1 false (.t 10)), 6, []⟩, ⟨(some 4), .none, (.mov (.t 11)), 7, []⟩]) .ret)), [(.t 4)]⟩
theorem k94 : EE.fns 94 = some c94 := by kernel_rfl
end Go.Proofs.Ytdplmjlbkaipiaa.Ev

/- How far one realm is from another: plain, with no program in sight. -/
namespace Go.Proofs.Ytdplmjlbkaipiaa.Ev
set_option linter.all false
open Go

/-- A way of at most so many hops. -/
def Rn (P : Hop → Prop) : Nat → Int → Int → Prop
  | 0, a, b => a = b
  | n + 1, a, b => Rn P n a b ∨ ∃ c, Rn P n a c ∧ P (c, b)

variable {P : Hop → Prop}

theorem Rn.mono {n k : Nat} (h : n ≤ k) {a b : Int} (hr : Rn P n a b) : Rn P k a b := by
  induction k with
  | zero =>
    have : n = 0 := by omega
    subst this
    exact hr
  | succ k ih =>
    by_cases hk : n = k + 1
    · subst hk; exact hr
    · exact .inl (ih (by omega))

theorem Rn.head : ∀ {n : Nat} {a b : Int}, Rn P (n + 1) a b ↔ Rn P n a b ∨ ∃ c, P (a, c) ∧ Rn P n c b
  | 0, a, b => by
    constructor
    · rintro (h | ⟨c, h, hp⟩)
      · exact .inl h
      · have h : a = c := h
        subst h
        exact .inr ⟨b, hp, rfl⟩
    · rintro (h | ⟨c, hp, h⟩)
      · exact .inl h
      · have h : c = b := h
        subst h
        exact .inr ⟨a, rfl, hp⟩
  | n + 1, a, b => by
    constructor
    · rintro (h | ⟨c, h, hp⟩)
      · exact .inl h
      · rcases Rn.head.1 h with h | ⟨d, hd, h⟩
        · exact .inl (.inr ⟨c, h, hp⟩)
        · exact .inr ⟨d, hd, .inr ⟨c, h, hp⟩⟩
    · rintro (h | ⟨c, hp, h⟩)
      · exact .inl h
      · rcases h with h | ⟨d, h, hd⟩
        · exact .inl (Rn.head.2 (.inr ⟨c, hp, h⟩))
        · exact .inr ⟨d, Rn.head.2 (.inr ⟨c, hp, h⟩), hd⟩

open Classical in
/-- How far, if not farther than so many hops; else -1. -/
noncomputable def Dn (P : Hop → Prop) (to : Int) : Nat → Int → Int
  | 0, x => if x = to then 0 else -1
  | k + 1, x => if 0 ≤ Dn P to k x then Dn P to k x else if Rn P (k + 1) x to then (k + 1 : Nat) else -1

variable {to : Int}

theorem Dn.cases : ∀ (k : Nat) (x : Int), (Dn P to k x = -1 ∧ ¬ Rn P k x to) ∨ ∃ n : Nat, Dn P to k x = n ∧ n ≤ k ∧ Rn P n x to ∧ ∀ j, j < n → ¬ Rn P j x to
  | 0, x => by
    unfold Dn
    split
    · rename_i h; exact .inr ⟨0, rfl, Nat.le_refl _, h, fun j hj => by omega⟩
    · rename_i h; exact .inl ⟨rfl, h⟩
  | k + 1, x => by
    unfold Dn
    rcases Dn.cases k x with ⟨h, hn⟩ | ⟨n, h, hk, hr, hm⟩
    · rw [h, if_neg (by omega)]
      split
      · rename_i hr; exact .inr ⟨k + 1, rfl, Nat.le_refl _, hr, fun j hj hj2 => hn (hj2.mono (by omega))⟩
      · rename_i hr; exact .inl ⟨rfl, hr⟩
    · rw [h, if_pos (by omega)]
      exact .inr ⟨n, rfl, by omega, hr, hm⟩

theorem Dn.nonneg {k : Nat} {x : Int} : 0 ≤ Dn P to k x ↔ Rn P k x to := by
  rcases Dn.cases (P := P) (to := to) k x with ⟨h, hn⟩ | ⟨n, h, hk, hr, hm⟩
  · rw [h]; exact ⟨fun h => by omega, fun h => absurd h hn⟩
  · rw [h]; exact ⟨fun _ => hr.mono hk, fun _ => by omega⟩

open Classical in
theorem Dn.step {k : Nat} {x : Int} : Dn P to (k + 1) x = if 0 ≤ Dn P to k x then Dn P to k x else if ∃ y, P (x, y) ∧ Dn P to k y = (k : Int) then ((k + 1 : Nat) : Int) else -1 := by
  rw [Dn]
  by_cases h0 : 0 ≤ Dn P to k x
  · rw [if_pos h0, if_pos h0]
  · rw [if_neg h0, if_neg h0]
    have hn : ¬ Rn P k x to := fun h => h0 (Dn.nonneg.2 h)
    have : Rn P (k + 1) x to ↔ ∃ y, P (x, y) ∧ Dn P to k y = (k : Int) := by
      rw [Rn.head]
      constructor
      · rintro (h | ⟨c, hp, h⟩)
        · exact absurd h hn
        · refine ⟨c, hp, ?_⟩
          rcases Dn.cases (P := P) (to := to) k c with ⟨_, h2⟩ | ⟨n, h2, hk, hr, _⟩
          · exact absurd h h2
          · by_cases hnk : n = k
            · rw [h2, hnk]
            · exact absurd ((Rn.head.2 (.inr ⟨c, hp, hr⟩) : Rn P (n + 1) x to).mono (by omega)) hn
      · rintro ⟨c, hp, h⟩
        exact .inr ⟨c, hp, Dn.nonneg.1 (by rw [h]; omega)⟩
    by_cases h : Rn P (k + 1) x to
    · rw [if_pos h, if_pos (this.1 h)]
    · rw [if_neg h, if_neg (fun h2 => h (this.2 h2))]

theorem Dn.le {k : Nat} {x : Int} : Dn P to k x ≤ k := by
  rcases Dn.cases (P := P) (to := to) k x with ⟨h, _⟩ | ⟨n, h, hk, _⟩ <;> rw [h] <;> omega

end Go.Proofs.Ytdplmjlbkaipiaa.Ev

/- Code of the program's functions, as the small machine has it: written by mkcode.py. -/
namespace Go.Proofs.Ytdplmjlbkaipiaa.Ev
set_option linter.all false
open Go
def c5 : CF := ⟨79, (.seq (.reg false [⟨(some 6), .none, (.mov (.c (.bool false))), 0, []⟩]) (.seq (.reg false [⟨(some 7), .none, (.mov (.c (.int .i64 1048576))), 0, []⟩]) (.seq (.reg false [⟨(some 15), .none, (.mov (.t 0)), 0, []⟩, ⟨(some 16), .none, (.mov (.t 7)), 1, []⟩, ⟨(some 17), .none, (.call 15 [(.t 15), (.t 16)]), 2, []⟩, ⟨(some 7), .none, (.mov (.t 17)), 3, []⟩]) (.seq (.seq (.reg false [⟨(some 18), .none, (.mov (.t 7)), 0, []⟩, ⟨(some 19), .none, (.bin .lss (.t 18) (.c (.int .i64 0))), 1, []⟩]) (.cond (.t 19) (.seq (.reg false [⟨(some 6), .none, (.mov (.c (.bool true))), 0, []⟩]) .ret) .skip)) (.seq (.reg false [⟨(some 20), .none, (.mov (.t 0)), 0, []⟩, ⟨(some 21), .none, (.call 17 [(.t 20)]), 1, []⟩, ⟨(some 22), .none, (.mov (.t 1)), 2, []⟩, ⟨(some 23), .none, (.mov (.t 2)), 3, []⟩, ⟨(some 24), .none, (.call 24 [(.t 21), (.t 22), (.t 23)]), 4, []⟩, ⟨(some 8), .none, (.mov (.t 24)), 5, []⟩]) (.seq (.reg false [⟨(some 25), .none, (.mov (.t 0)), 0, []⟩, ⟨(some 26), .none, (.call 17 [(.t 25)]), 1, []⟩, ⟨(some 9), .none, (.mov (.t 26)), 2, []⟩]) (.seq (.reg false [⟨(some 27), .none, (.mov (.t 9)), 0, []⟩, ⟨(some 28), .none, (.mov (.t 1)), 1, []⟩, ⟨(some 29), .none, (.mov (.t 2)), 2, []⟩, ⟨(some 30), .none, (.call 25 [(.t 27), (.t 28), (.t 29)]), 3, []⟩, ⟨(some 10), .none, (.mov (.t 30)), 4, []⟩]) (.seq (.seq (.reg false [⟨(some 31), .none, (.mov (.t 10)), 0, []⟩, ⟨(some 32), .none, (.mov (.t 8)), 1, []⟩, ⟨(some 33), .none, (.call 23 [(.t 31), (.t 32)]), 2, []⟩, ⟨(some 34), .none, (.un .not (.t 33)), 3, []⟩]) (.cond (.t 34) (.seq (.reg false [⟨(some 6), .none, (.mov (.c (.bool false))), 0, []⟩]) .ret) .skip)) (.seq (.seq (.reg false [⟨(some 35), .none, (.mov (.t 9)), 0, []⟩, ⟨(some 36), .none, (.mov (.t 0)), 1, []⟩, ⟨(some 37), .none, (.call 17 [(.t 36)]), 2, []⟩, ⟨(some 38), .none, (.call 19 [(.t 35), (.t 37)]), 3, []⟩, ⟨(some 39), .none, (.un .not (.t 38)), 4, []⟩]) (.cond (.t 39) (.seq (.reg false [⟨(some 6), .none, (.mov (.c (.bool false))), 0, []⟩]) .ret) .skip)) (.seq (.reg false [⟨(some 11), .none, (.mov (.c (.int .i64 1))), 0, []⟩]) (.seq (.reg false [⟨(some 40), .none, (.mov (.t 9)), 0, []⟩, ⟨(some 41), .none, (.mov (.t 11)), 1, []⟩, ⟨(some 42), .none, (.call 26 [(.t 40), (.t 41)]), 2, []⟩, ⟨(some 11), .none, (.mov (.t 42)), 3, []⟩]) (.seq (.seq (.reg false [⟨(some 43), .none, (.mov (.t 11)), 0, []⟩, ⟨(some 44), .none, (.bin .lss (.t 43) (.c (.int .i64 0))), 1, []⟩, ⟨(some 45), .none, (.mov (.t 44)), 2, []⟩, ⟨(some 46), (.some (45, false)), (.mov (.t 10)), 3, []⟩, ⟨(some 47), (.some (45, false)), (.mov (.t 8)), 4, []⟩, ⟨(some 48), (.some (45, false)), (.call 23 [(.t 46), (.t 47)]), 5, []⟩, ⟨(some 49), (.some (45, false)), (.un .not (.t 48)), 6, []⟩, ⟨(some 50), .none, (.pick (.t 45) (.c (.bool true)) (.t 49)), 7, []⟩]) (.cond (.t 50) (.seq (.reg false [⟨(some 6), .none, (.mov (.c (.bool false))), 0, []⟩]) .ret) .skip)) (.seq (.reg false [⟨(some 12), .none, (.mov (.c (.int .i64 1))), 0, []⟩]) (.seq (.reg false [⟨(some 51), .none, (.mov (.t 10)), 0, []⟩, ⟨(some 52), .none, (.mov (.t 12)), 1, []⟩, ⟨(some 53), .none, (.call 27 [(.t 51), (.t 52)]), 2, []⟩, ⟨(some 12), .none, (.mov (.t 53)), 3, []⟩]) (.seq (.reg false [⟨(some 13), .none, (.mov (.c (.int .i64 1))), 0, []⟩]) (.seq (.reg false [⟨(some 54), .none, (.mov (.t 10)), 0, []⟩, ⟨(some 55), .none, (.mov (.t 13)), 1, []⟩, ⟨(some 56), .none, (.call 28 [(.t 54), (.t 55)]), 2, []⟩, ⟨(some 13), .none, (.mov (.t 56)), 3, []⟩]) (.seq (.seq (.reg false [⟨(some 57), .none, (.mov (.t 13)), 0, []⟩, ⟨(some 58), .none, (.bin .lss (.t 57) (.c (.int .i64 0))), 1, []⟩]) (.cond (.t 58) (.seq (.reg false [⟨(some 6), .none, (.mov (.c (.bool false))), 0, []⟩]) .ret) .skip)) (.seq (.seq (.reg false [⟨(some 59), .none, (.mov (.t 13)), 0, []⟩, ⟨(some 60), .none, (.mov (.t 12)), 1, []⟩, ⟨(some 61), .none, (.bin .neq (.t 59) (.t 60)), 2, []⟩]) (.cond (.t 61) (.seq (.reg false [⟨(some 6), .none, (.mov (.c (.bool false))), 0, []⟩]) .ret) .skip)) (.seq (.reg false [⟨(some 62), .none, (.mov (.t 0)), 0, []⟩, ⟨(some 63), .none, (.call 17 [(.t 62)]), 1, []⟩, ⟨(some 64), .none, (.mov (.t 1)), 2, []⟩, ⟨(some 65), .none, (.mov (.t 2)), 3, []⟩, ⟨(some 66), .none, (.call 25 [(.t 63), (.t 64), (.t 65)]), 4, []⟩, ⟨(some 14), .none, (.mov (.t 66)), 5, []⟩]) (.seq (.seq (.reg false [⟨(some 67), .none, (.mov (.t 14)), 0, []⟩, ⟨(some 68), .none, (.mov (.t 8)), 1, []⟩, ⟨(some 69), .none, (.call 23 [(.t 67), (.t 68)]), 2, []⟩, ⟨(some 70), .none, (.un .not (.t 69)), 3, []⟩]) (.cond (.t 70) (.seq (.reg false [⟨(some 6), .none, (.mov (.c (.bool false))), 0, []⟩]) .ret) .skip)) (.seq (.reg false [⟨(some 13), .none, (.mov (.c (.int .i64 1))), 0, []⟩]) (.seq (.reg false [⟨(some 71), .none, (.mov (.t 10)), 0, []⟩, ⟨(some 72), .none, (.mov (.t 13)), 1, []⟩, ⟨(some 73), .none, (.call 28 [(.t 71), (.t 72)]), 2, []⟩, ⟨(some 13), .none, (.mov (.t 73)), 3, []⟩]) (.seq (.seq (.reg false [⟨(some 74), .none, (.mov (.t 13)), 0, []⟩, ⟨(some 75), .none, (.bin .lss (.t 74) (.c (.int .i64 0))), 1, []⟩]) (.cond (.t 75) (.seq (.reg false [⟨(some 6), .none, (.mov (.c (.bool false))), 0, []⟩]) .ret) .skip)) (.seq (.seq (.reg false [⟨(some 76), .none, (.mov (.t 13)), 0, []⟩, ⟨(some 77), .none, (.mov (.t 12)), 1, []⟩, ⟨(some 78), .none, (.bin .neq (.t 76) (.t 77)), 2, []⟩]) (.cond (.t 78) (.seq (.reg false [⟨(some 6), .none, (.mov (.c (.bool false))), 0, []⟩]) .ret) .skip)) (.seq (.reg false [⟨(some 6), .none, (.mov (.c (.bool true))), 0, []⟩]) .ret))))))))))))))))))))))))), [(.t 6)]⟩
theorem k5 : EE.fns 5 = some c5 := by kernel_rfl
def c6 : CF := ⟨79, (.seq (.reg false [⟨(some 6), .none, (.mov (.c (.bool false))), 0, []⟩]) (.seq (.reg false [⟨(some 7), .none, (.mov (.c (.int .i64 1048576))), 0, []⟩]) (.seq (.reg false [⟨(some 15), .none, (.mov (.t 0)), 0, []⟩, ⟨(some 16), .none, (.mov (.t 7)), 1, []⟩, ⟨(some 17), .none, (.call 15 [(.t 15), (.t 16)]), 2, []⟩, ⟨(some 7), .none, (.mov (.t 17)), 3, []⟩]) (.seq (.seq (.reg false [⟨(some 18), .none, (.mov (.t 7)), 0, []⟩, ⟨(some 19), .none, (.bin .lss (.t 18) (.c (.int .i64 0))), 1, []⟩]) (.cond (.t 19) (.seq (.reg false [⟨(some 6), .none, (.mov (.c (.bool true))), 0, []⟩]) .ret) .skip)) (.seq (.reg false [⟨(some 20), .none, (.mov (.t 0)), 0, []⟩, ⟨(some 21), .none, (.call 17 [(.t 20)]), 1, []⟩, ⟨(some 22), .none, (.mov (.t 1)), 2, []⟩, ⟨(some 23), .none, (.mov (.t 2)), 3, []⟩, ⟨(some 24), .none, (.call 29 [(.t 21), (.t 22), (.t 23)]), 4, []⟩, ⟨(some 8), .none, (.mov (.t 24)), 5, []⟩]) (.seq (.reg false [⟨(some 25), .none, (.mov (.t 0)), 0, []⟩, ⟨(some 26), .none, (.call 17 [(.t 25)]), 1, []⟩, ⟨(some 9), .none, (.mov (.t 26)), 2, []⟩]) (.seq (.reg false [⟨(some 27), .none, (.mov (.t 9)), 0, []⟩, ⟨(some 28), .none, (.mov (.t 1)), 1, []⟩, ⟨(some 29), .none, (.mov (.t 2)), 2, []⟩, ⟨(some 30), .none, (.call 30 [(.t 27), (.t 28), (.t 29)]), 3, []⟩, ⟨(some 10), .none, (.mov (.t 30)), 4, []⟩]) (.seq (.seq (.reg false [⟨(some 31), .none, (.mov (.t 10)), 0, []⟩, ⟨(some 32), .none, (.mov (.t 8)), 1, []⟩, ⟨(some 33), .none, (.call 23 [(.t 31), (.t 32)]), 2, []⟩, ⟨(some 34), .none, (.un .not (.t 33)), 3, []⟩]) (.cond (.t 34) (.seq (.reg false [⟨(some 6), .none, (.mov (.c (.bool false))), 0, []⟩]) .ret) .skip)) (.seq (.seq (.reg false [⟨(some 35), .none, (.mov (.t 9)), 0, []⟩, ⟨(some 36), .none, (.mov (.t 0)), 1, []⟩, ⟨(some 37), .none, (.call 17 [(.t 36)]), 2, []⟩, ⟨(some 38), .none, (.call 19 [(.t 35), (.t 37)]), 3, []⟩, ⟨(some 39), .none, (.un .not (.t 38)), 4, []⟩]) (.cond (.t 39) (.seq (.reg false [⟨(some 6), .none, (.mov (.c (.bool false))), 0, []⟩]) .ret) .skip)) (.seq (.reg false [⟨(some 11), .none, (.mov (.c (.int .i64 1))), 0, []⟩]) (.seq (.reg false [⟨(some 40), .none, (.mov (.t 9)), 0, []⟩, ⟨(some 41), .none, (.mov (.t 11)), 1, []⟩, ⟨(some 42), .none, (.call 26 [(.t 40), (.t 41)]), 2, []⟩, ⟨(some 11), .none, (.mov (.t 42)), 3, []⟩]) (.seq (.seq (.reg false [⟨(some 43), .none, (.mov (.t 11)), 0, []⟩, ⟨(some 44), .none, (.bin .lss (.t 43) (.c (.int .i64 0))), 1, []⟩, ⟨(some 45), .none, (.mov (.t 44)), 2, []⟩, ⟨(some 46), (.some (45, false)), (.mov (.t 10)), 3, []⟩, ⟨(some 47), (.some (45, false)), (.mov (.t 8)), 4, []⟩, ⟨(some 48), (.some (45, false)), (.call 23 [(.t 46), (.t 47)]), 5, []⟩, ⟨(some 49), (.some (45, false)), (.un .not (.t 48)), 6, []⟩, ⟨(some 50), .none, (.pick (.t 45) (.c (.bool true)) (.t 49)), 7, []⟩]) (.cond (.t 50) (.seq (.reg false [⟨(some 6), .none, (.mov (.c (.bool false))), 0, []⟩]) .ret) .skip)) (.seq (.reg false [⟨(some 12), .none, (.mov (.c (.int .i64 1))), 0, []⟩]) (.seq (.reg false [⟨(some 51), .none, (.mov (.t 10)), 0, []⟩, ⟨(some 52), .none, (.mov (.t 12)), 1, []⟩, ⟨(some 53), .none, (.call 27 [(.t 51), (.t 52)]), 2, []⟩, ⟨(some 12), .none, (.mov (.t 53)), 3, []⟩]) (.seq (.reg false [⟨(some 13), .none, (.mov (.c (.int .i64 1))), 0, []⟩]) (.seq (.reg false [⟨(some 54), .none, (.mov (.t 10)), 0, []⟩, ⟨(some 55), .none, (.mov (.t 13)), 1, []⟩, ⟨(some 56), .none, (.call 28 [(.t 54), (.t 55)]), 2, []⟩, ⟨(some 13), .none, (.mov (.t 56)), 3, []⟩]) (.seq (.seq (.reg false [⟨(some 57), .none, (.mov (.t 13)), 0, []⟩, ⟨(some 58), .none, (.bin .lss (.t 57) (.c (.int .i64 0))), 1, []⟩]) (.cond (.t 58) (.seq (.reg false [⟨(some 6), .none, (.mov (.c (.bool false))), 0, []⟩]) .ret) .skip)) (.seq (.seq (.reg false [⟨(some 59), .none, (.mov (.t 13)), 0, []⟩, ⟨(some 60), .none, (.mov (.t 12)), 1, []⟩, ⟨(some 61), .none, (.bin .neq (.t 59) (.t 60)), 2, []⟩]) (.cond (.t 61) (.seq (.reg false [⟨(some 6), .none, (.mov (.c (.bool false))), 0, []⟩]) .ret) .skip)) (.seq (.reg false [⟨(some 62), .none, (.mov (.t 0)), 0, []⟩, ⟨(some 63), .none, (.call 17 [(.t 62)]), 1, []⟩, ⟨(some 64), .none, (.mov (.t 1)), 2, []⟩, ⟨(some 65), .none, (.mov (.t 2)), 3, []⟩, ⟨(some 66), .none, (.call 30 [(.t 63), (.t 64), (.t 65)]), 4, []⟩, ⟨(some 14), .none, (.mov (.t 66)), 5, []⟩]) (.seq (.seq (.reg false [⟨(some 67), .none, (.mov (.t 14)), 0, []⟩, ⟨(some 68), .none, (.mov (.t 8)), 1, []⟩, ⟨(some 69), .none, (.call 23 [(.t 67), (.t 68)]), 2, []⟩, ⟨(some 70), .none, (.un .not (.t 69)), 3, []⟩]) (.cond (.t 70) (.seq (.reg false [⟨(some 6), .none, (.mov (.c (.bool false))), 0, []⟩]) .ret) .skip)) (.seq (.reg false [⟨(some 13), .none, (.mov (.c (.int .i64 1))), 0, []⟩]) (.seq (.reg false [⟨(some 71), .none, (.mov (.t 10)), 0, []⟩, ⟨(some 72), .none, (.mov (.t 13)), 1, []⟩, ⟨(some 73), .none, (.call 28 [(.t 71), (.t 72)]), 2, []⟩, ⟨(some 13), .none, (.mov (.t 73)), 3, []⟩]) (.seq (.seq (.reg false [⟨(some 74), .none, (.mov (.t 13)), 0, []⟩, ⟨(some 75), .none, (.bin .lss (.t 74) (.c (.int .i64 0))), 1, []⟩]) (.cond (.t 75) (.seq (.reg false [⟨(some 6), .none, (.mov (.c (.bool false))), 0, []⟩]) .ret) .skip)) (.seq (.seq (.reg false [⟨(some 76), .none, (.mov (.t 13)), 0, []⟩, ⟨(some 77), .none, (.mov (.t 12)), 1, []⟩, ⟨(some 78), .none, (.bin .neq (.t 76) (.t 77)), 2, []⟩]) (.cond (.t 78) (.seq (.reg false [⟨(some 6), .none, (.mov (.c (.bool false))), 0, []⟩]) .ret) .skip)) (.seq (.reg false [⟨(some 6), .none, (.mov (.c (.bool true))), 0, []⟩]) .ret))))))))))))))))))))))))), [(.t 6)]⟩
theorem k6 : EE.fns 6 = some c6 := by kernel_rfl
def c24 : CF := ⟨72, (.seq (.reg false [⟨(some 6), .none, (.mov (.c (.slice .none 0 0))), 0, []⟩]) (.seq (.reg false [⟨(some 12), .none, (.mkO 0 1 [(.int .i64 0)] []), 0, []⟩, ⟨(some 7), .none, (.mov (.t 12)), 1, []⟩]) (.seq (.seq (.reg false [⟨(some 13), .none, (.mov (.t 0)), 0, []⟩, ⟨(some 14), .none, (.call 16 [(.t 13)]), 1, []⟩, ⟨(some 15), .none, (.un .not (.t 14)), 2, []⟩, ⟨(some 16), .none, (.mov (.t 15)), 3, []⟩, ⟨(some 17), (.some (16, false)), (.mov (.t 1)), 4, []⟩, ⟨(some 18), (.some (16, false)), (.call 55 [(.t 17)]), 5, []⟩, ⟨(some 19), (.some (16, false)), (.un .not (.t 18)), 6, []⟩, ⟨(some 20), .none, (.pick (.t 16) (.c (.bool true)) (.t 19)), 7, []⟩, ⟨(some 21), .none, (.mov (.t 20)), 8, []⟩, ⟨(some 22), (.some (21, false)), (.mov (.t 2)), 9, []⟩, ⟨(some 23), (.some (21, false)), (.call 55 [(.t 22)]), 10, []⟩, ⟨(some 24), (.some (21, false)), (.un .not (.t 23)), 11, []⟩, ⟨(some 25), .none, (.pick (.t 21) (.c (.bool true)) (.t 24)), 12, []⟩]) (.cond (.t 25) (.seq (.reg false [⟨(some 26), .none, (.mov (.t 7)), 0, []⟩, ⟨(some 6), .none, (.mov (.t 26)), 1, []⟩]) .ret) .skip)) (.seq (.reg false [⟨(some 27), .none, (.mov (.t 0)), 0, []⟩, ⟨(some 28), .none, (.mov (.t 2)), 1, []⟩, ⟨(some 29), .none, (.call 63 [(.t 27), (.t 28), (.c (.int .i64 (-1)))]), 2, []⟩, ⟨(some 8), .none, (.mov (.t 29)), 3, []⟩]) (.seq (.seq (.reg false [⟨(some 30), .none, (.mov (.t 8)), 0, []⟩, ⟨(some 31), .none, (.mov (.t 1)), 1, []⟩, ⟨(some 32), .none, (.iadr 1 (.t 30) (.t 31)), 2, []⟩, ⟨(some 33), .none, (.load 1 false (.t 32)), 3, []⟩, ⟨(some 34), .none, (.bin .lss (.t 33) (.c (.int .i64 0))), 4, []⟩]) (.cond (.t 34) (.seq (.reg false [⟨(some 35), .none, (.mov (.t 7)), 0, []⟩, ⟨(some 6), .none, (.mov (.t 35)), 1, []⟩]) .ret) .skip)) (.seq (.reg false [⟨(some 36), .none, (.mov (.t 7)), 0, []⟩, ⟨(some 37), .none, (.mov (.t 1)), 1, []⟩, ⟨(some 38), .none, (.mkV 1 1 [(.int .i64 0)] [(0, (.t 37))]), 2, []⟩, ⟨(some 39), .none, (.app 1 8 (.t 36) (.t 38)), 3, []⟩, ⟨(some 7), .none, (.mov (.t 39)), 4, []⟩]) (.seq (.reg false [⟨(some 40), .none, (.mov (.t 1)), 0, []⟩, ⟨(some 9), .none, (.mov (.t 40)), 1, []⟩]) (.seq (.block 0 (.loop (.seq (.seq (.reg false [⟨(some 41), .none, (.mov (.t 9)), 0, []⟩, ⟨(some 42), .none, (.mov (.t 2)), 1, []⟩, ⟨(some 43), .none, (.bin .neq (.t 41) (.t 42)), 2, []⟩]) (.cond (.t 43) .skip (.exit 0))) (.block 1 (.seq (.reg false [⟨(some 10), .none, (.mov (.c (.int .i64 (-1)))), 0, []⟩]) (.seq (.seq (.reg false [⟨(some 11), .none, (.mov (.c (.int .i64 7))), 0, []⟩]) (.block 2 (.loop (.seq (.seq (.reg false [⟨(some 44), .none, (.mov (.t 11)), 0, []⟩, ⟨(some 45), .none, (.bin .geq (.t 44) (.c (.int .i64 0))), 1, []⟩]) (.cond (.t 45) .skip (.exit 2))) (.seq (.block 3 (.seq (.reg true [⟨(some 48), .none, (.mov (.t 8)), 0, []⟩, ⟨(some 49), .none, (.mov (.t 11)), 1, []⟩, ⟨(some 50), .none, (.iadr 1 (.t 48) (.t 49)), 2, [0, 1]⟩, ⟨(some 51), .none, (.load 1 false (.t 50)), 3, [2, 0, 1]⟩, ⟨(some 52), .none, (.mov (.t 8)), 4, []⟩, ⟨(some 53), .none, (.mov (.t 9)), 5, []⟩, ⟨(some 54), .none, (.iadr 1 (.t 52) (.t 53)), 6, [4, 5]⟩, ⟨(some 55), .none, (.load 1 false (.t 54)), 7, [6, 4, 5]⟩, ⟨(some 56), .none, (.bin .sub (.t 55) (.c (.int .i64 1))), 8, [7, 6, 4, 5]⟩, ⟨(some 57), .none, (.bin .eql (.t 51) (.t 56)), 9, [3, 2, 0, 1, 8, 7, 6, 4, 5]⟩, ⟨(some 58), .none, (.mov (.t 57)), 10, [9, 3, 2, 0, 1, 8, 7, 6, 4, 5]⟩, ⟨(some 59), (.some (58, true)), (.mov (.t 0)), 11, [10, 9, 3, 2, 0, 1, 8, 7, 6, 4, 5]⟩, ⟨(some 60), (.some (58, true)), (.mov (.t 9)), 12, [10, 9, 3, 2, 0, 1, 8, 7, 6, 4, 5]⟩, ⟨(some 61), (.some (58, true)), (.mov (.t 11)), 13, [10, 9, 3, 2, 0, 1, 8, 7, 6, 4, 5]⟩, ⟨(some 62), (.some (58, true)), (.build [(.int .i64 0), (.int .i64 0)] [(0, (1, (.t 60))), (1, (1, (.t 61)))]), 14, [12, 10, 9, 3, 2, 0, 1, 8, 7, 6, 4, 5, 13]⟩, ⟨(some 63), (.some (58, true)), (.call 56 [(.t 59), (.t 62)]), 15, [11, 10, 9, 3, 2, 0, 1, 8, 7, 6, 4, 5, 14, 12, 13]⟩, ⟨(some 64), .none, (.pick (.t 58) (.t 63) (.c (.bool false))), 16, [10, 9, 3, 2, 0, 1, 8, 7, 6, 4, 5, 15, 11, 14, 12, 13]⟩]) (.cond (.t 64) (.reg false [⟨(some 65), .none, (.mov (.t 11)), 0, []⟩, ⟨(some 10), .none, (.mov (.t 65)), 1, []⟩]) .skip))) (.reg false [⟨(some 46), .none, (.mov (.t 11)), 0, []⟩, ⟨(some 47), .none, (.bin .sub (.t 46) (.c (.int .i64 1))), 1, []⟩, ⟨(some 11), .none, (.mov (.t 47)), 2, []⟩])))))) (.seq (.reg false [⟨(some 66), .none, (.mov (.t 7)), 0, []⟩, ⟨(some 67), .none, (.mov (.t 10)), 1, []⟩, ⟨(some 68), .none, (.mkV 1 1 [(.int .i64 0)] [(0, (.t 67))]), 2, []⟩, ⟨(some 69), .none, (.app 1 8 (.t 66) (.t 68)), 3, []⟩, ⟨(some 7), .none, (.mov (.t 69)), 4, []⟩]) (.reg false [⟨(some 70), .none, (.mov (.t 10)), 0, []⟩, ⟨(some 9), .none, (.mov (.t 70)), 1, []⟩])))))))) (.seq (.reg false [⟨(some 71), .none, (.mov (.t 7)), 0, []⟩, ⟨(some 6), .none, (.mov (.t 71)), 1, []⟩]) .ret))))))))), [(.t 6)]⟩
theorem k24 : EE.fns 24 = some c24 := by kernel_rfl
def c25 : CF := ⟨69, (.seq (.reg false [⟨(some 6), .none, (.mov (.c (.slice .none 0 0))), 0, []⟩]) (.seq (.reg false [⟨(some 11), .none, (.mkO 0 1 [(.int .i64 0)] []), 0, []⟩, ⟨(some 7), .none, (.mov (.t 11)), 1, []⟩]) (.seq (.seq (.reg false [⟨(some 12), .none, (.mov (.t 0)), 0, []⟩, ⟨(some 13), .none, (.call 18 [(.t 12)]), 1, []⟩, ⟨(some 14), .none, (.un .not (.t 13)), 2, []⟩, ⟨(some 15), .none, (.mov (.t 14)), 3, []⟩, ⟨(some 16), (.some (15, false)), (.mov (.t 1)), 4, []⟩, ⟨(some 17), (.some (15, false)), (.call 58 [(.t 16)]), 5, []⟩, ⟨(some 18), (.some (15, false)), (.un .not (.t 17)), 6, []⟩, ⟨(some 19), .none, (.pick (.t 15) (.c (.bool true)) (.t 18)), 7, []⟩, ⟨(some 20), .none, (.mov (.t 19)), 8, []⟩, ⟨(some 21), (.some (20, false)), (.mov (.t 2)), 9, []⟩, ⟨(some 22), (.some (20, false)), (.call 58 [(.t 21)]), 10, []⟩, ⟨(some 23), (.some (20, false)), (.un .not (.t 22)), 11, []⟩, ⟨(some 24), .none, (.pick (.t 20) (.c (.bool true)) (.t 23)), 12, []⟩, ⟨(some 25), .none, (.mov (.t 24)), 13, []⟩, ⟨(some 26), (.some (25, false)), (.mov (.t 0)), 14, []⟩, ⟨(some 27), (.some (25, false)), (.mov (.t 1)), 15, []⟩, ⟨(some 28), (.some (25, false)), (.mov (.t 2)), 16, []⟩, ⟨(some 29), (.some (25, false)), (.call 64 [(.t 26), (.t 27), (.t 28)]), 17, []⟩, ⟨(some 30), (.some (25, false)), (.bin .lss (.t 29) (.c (.int .i64 0))), 18, []⟩, ⟨(some 31), .none, (.pick (.t 25) (.c (.bool true)) (.t 30)), 19, []⟩]) (.cond (.t 31) (.seq (.reg false [⟨(some 32), .none, (.mov (.t 7)), 0, []⟩, ⟨(some 6), .none, (.mov (.t 32)), 1, []⟩]) .ret) .skip)) (.seq (.reg false [⟨(some 33), .none, (.mov (.t 7)), 0, []⟩, ⟨(some 34), .none, (.mov (.t 1)), 1, []⟩, ⟨(some 35), .none, (.mkV 1 1 [(.int .i64 0)] [(0, (.t 34))]), 2, []⟩, ⟨(some 36), .none, (.app 1 8 (.t 33) (.t 35)), 3, []⟩, ⟨(some 7), .none, (.mov (.t 36)), 4, []⟩]) (.seq (.seq (.reg false [⟨(some 37), .none, (.mov (.t 1)), 0, []⟩, ⟨(some 8), .none, (.mov (.t 37)), 1, []⟩]) (.block 0 (.loop (.seq (.seq (.reg false [⟨(some 38), .none, (.mov (.t 8)), 0, []⟩, ⟨(some 39), .none, (.mov (.t 2)), 1, []⟩, ⟨(some 40), .none, (.bin .neq (.t 38) (.t 39)), 2, []⟩]) (.cond (.t 40) .skip (.exit 0))) (.block 1 (.seq (.reg false [⟨(some 41), .none, (.mov (.t 0)), 0, []⟩, ⟨(some 42), .none, (.mov (.t 8)), 1, []⟩, ⟨(some 43), .none, (.mov (.t 2)), 2, []⟩, ⟨(some 44), .none, (.call 64 [(.t 41), (.t 42), (.t 43)]), 3, []⟩, ⟨(some 9), .none, (.mov (.t 44)), 4, []⟩]) (.seq (.seq (.reg false [⟨(some 45), .none, (.mov (.c (.int .i64 0))), 0, []⟩]) (.block 2 (.loop (.seq (.reg false [⟨(some 46), .none, (.bin .lss (.t 45) (.c (.int .i64 8))), 0, []⟩]) (.seq (.cond (.t 46) .skip (.exit 2)) (.seq (.block 3 (.seq (.reg false [⟨(some 47), .none, (.mov (.t 45)), 0, []⟩, ⟨(some 10), .none, (.mov (.t 47)), 1, []⟩]) (.seq (.reg false [⟨(some 48), .none, (.mov (.t 0)), 0, []⟩, ⟨(some 49), .none, (.mov (.t 8)), 1, []⟩, ⟨(some 50), .none, (.mov (.t 10)), 2, []⟩, ⟨(some 51), .none, (.build [(.int .i64 0), (.int .i64 0)] [(0, (1, (.t 49))), (1, (1, (.t 50)))]), 3, []⟩, ⟨(some 52), .none, (.call 59 [(.t 48), (.t 51)]), 4, []⟩, ⟨(some 53), .none, (.mov (.t 52)), 5, []⟩, ⟨(some 54), (.some (53, true)), (.mov (.t 0)), 6, []⟩, ⟨(some 55), (.some (53, true)), (.mov (.t 10)), 7, []⟩, ⟨(some 56), (.some (53, true)), (.mov (.t 2)), 8, []⟩, ⟨(some 57), (.some (53, true)), (.call 64 [(.t 54), (.t 55), (.t 56)]), 9, []⟩, ⟨(some 58), (.some (53, true)), (.mov (.t 9)), 10, []⟩, ⟨(some 59), (.some (53, true)), (.bin .sub (.t 58) (.c (.int .i64 1))), 11, []⟩, ⟨(some 60), (.some (53, true)), (.bin .eql (.t 57) (.t 59)), 12, []⟩, ⟨(some 61), .none, (.pick (.t 53) (.t 60) (.c (.bool false))), 13, []⟩]) (.cond (.t 61) (.seq (.reg false [⟨(some 62), .none, (.mov (.t 10)), 0, []⟩, ⟨(some 8), .none, (.mov (.t 62)), 1, []⟩]) (.exit 2)) .skip)))) (.reg false [⟨(some 63), .none, (.bin .add (.t 45) (.c (.int .i64 1))), 0, []⟩, ⟨(some 45), .none, (.mov (.t 63)), 1, []⟩]))))))) (.reg false [⟨(some 64), .none, (.mov (.t 7)), 0, []⟩, ⟨(some 65), .none, (.mov (.t 8)), 1, []⟩, ⟨(some 66), .none, (.mkV 1 1 [(.int .i64 0)] [(0, (.t 65))]), 2, []⟩, ⟨(some 67), .none, (.app 1 8 (.t 64) (.t 66)), 3, []⟩, ⟨(some 7), .none, (.mov (.t 67)), 4, []⟩])))))))) (.seq (.reg false [⟨(some 68), .none, (.mov (.t 7)), 0, []⟩, ⟨(some 6), .none, (.mov (.t 68)), 1, []⟩]) .ret)))))), [(.t 6)]⟩
theorem k25 : EE.fns 25 = some c25 := by kernel_rfl
def c26 : CF := ⟨27, (.seq (.reg false [⟨(some 4), .none, (.mov (.c (.int .i64 0))), 0, []⟩]) (.seq (.seq (.reg false [⟨(some 5), .none, (.mov (.c (.int .i64 0))), 0, []⟩]) (.block 0 (.loop (.seq (.seq (.reg false [⟨(some 6), .none, (.mov (.t 5)), 0, []⟩, ⟨(some 7), .none, (.mov (.t 0)), 1, []⟩, ⟨(some 8), .none, (.lenS (.t 7)), 2, []⟩, ⟨(some 9), .none, (.bin .lss (.t 6) (.t 8)), 3, []⟩]) (.cond (.t 9) .skip (.exit 0))) (.seq (.block 1 (.seq (.reg false [⟨(some 12), .none, (.mov (.t 0)), 0, []⟩, ⟨(some 13), .none, (.mov (.t 5)), 1, []⟩, ⟨(some 14), .none, (.mov (.t 1)), 2, []⟩, ⟨(some 15), .none, (.iadr 2 (.t 12) (.t 13)), 3, []⟩, ⟨(some 16), .none, (.fadr 0 (.t 15)), 4, []⟩, ⟨.none, .none, (.store 1 (.t 16) (.t 14)), 5, []⟩]) (.seq (.reg false [⟨(some 17), .none, (.mov (.t 1)), 0, []⟩, ⟨(some 18), .none, (.bin .add (.t 17) (.c (.int .i64 1))), 1, []⟩, ⟨(some 1), .none, (.mov (.t 18)), 2, []⟩]) (.seq (.reg false [⟨(some 19), .none, (.mov (.t 0)), 0, []⟩, ⟨(some 20), .none, (.mov (.t 5)), 1, []⟩, ⟨(some 21), .none, (.mov (.t 1)), 2, []⟩, ⟨(some 22), .none, (.iadr 2 (.t 19) (.t 20)), 3, []⟩, ⟨(some 23), .none, (.fadr 1 (.t 22)), 4, []⟩, ⟨.none, .none, (.store 1 (.t 23) (.t 21)), 5, []⟩]) (.reg false [⟨(some 24), .none, (.mov (.t 1)), 0, []⟩, ⟨(some 25), .none, (.bin .add (.t 24) (.c (.int .i64 1))), 1, []⟩, ⟨(some 1), .none, (.mov (.t 25)), 2, []⟩]))))) (.reg false [⟨(some 10), .none, (.mov (.t 5)), 0, []⟩, ⟨(some 11), .none, (.bin .add (.t 10) (.c (.int .i64 1))), 1, []⟩, ⟨(some 5), .none, (.mov (.t 11)), 2, []⟩])))))) (.seq (.reg false [⟨(some 26), .none, (.mov (.t 1)), 0, []⟩, ⟨(some 4), .none, (.mov (.t 26)), 1, []⟩]) .ret))), [(.t 4)]⟩
theorem k26 : EE.fns 26 = some c26 := by kernel_rfl
end Go.Proofs.Ytdplmjlbkaipiaa.Ev

/- Code of the program's functions, as the small machine has it: written by mkcode.py. -/
namespace Go.Proofs.Ytdplmjlbkaipiaa.Ev
set_option linter.all false
open Go
def c4 : CF := ⟨59, (.seq (.reg false [⟨(some 6), .none, (.mov (.c (.bool false))), 0, []⟩]) (.seq (.seq (.reg false [⟨(some 13), .none, (.mov (.t 1)), 0, []⟩, ⟨(some 14), .none, (.lenS (.t 13)), 1, []⟩, ⟨(some 15), .none, (.bin .gtr (.t 14) (.c (.int .i64 1048576))), 2, []⟩]) (.cond (.t 15) (.seq (.reg false [⟨(some 6), .none, (.mov (.c (.bool true))), 0, []⟩]) .ret) .skip)) (.seq (.seq (.reg false [⟨(some 16), .none, (.mov (.t 2)), 0, []⟩, ⟨(some 17), .none, (.lenS (.t 16)), 1, []⟩, ⟨(some 18), .none, (.bin .gtr (.t 17) (.c (.int .i64 1048576))), 2, []⟩]) (.cond (.t 18) (.seq (.reg false [⟨(some 6), .none, (.mov (.c (.bool true))), 0, []⟩]) .ret) .skip)) (.seq (.reg false [⟨(some 7), .none, (.mov (.c (.int .i64 1048576))), 0, []⟩]) (.seq (.reg false [⟨(some 19), .none, (.mov (.t 0)), 0, []⟩, ⟨(some 20), .none, (.mov (.t 7)), 1, []⟩, ⟨(some 21), .none, (.call 15 [(.t 19), (.t 20)]), 2, []⟩, ⟨(some 7), .none, (.mov (.t 21)), 3, []⟩]) (.seq (.seq (.reg false [⟨(some 22), .none, (.mov (.t 7)), 0, []⟩, ⟨(some 23), .none, (.bin .lss (.t 22) (.c (.int .i64 0))), 1, []⟩]) (.cond (.t 23) (.seq (.reg false [⟨(some 6), .none, (.mov (.c (.bool true))), 0, []⟩]) .ret) .skip)) (.seq (.reg false [⟨(some 24), .none, (.mov (.t 0)), 0, []⟩, ⟨(some 25), .none, (.call 17 [(.t 24)]), 1, []⟩, ⟨(some 26), .none, (.mov (.t 1)), 2, []⟩, ⟨(some 27), .none, (.call 21 [(.t 26)]), 3, []⟩, ⟨(some 28), .none, (.mov (.t 2)), 4, []⟩, ⟨(some 29), .none, (.call 21 [(.t 28)]), 5, []⟩, ⟨(some 30), .none, (.call 20 [(.t 25), (.t 27), (.t 29)]), 6, []⟩, ⟨(some 8), .none, (.mov (.t 30)), 7, []⟩]) (.seq (.reg false [⟨(some 31), .none, (.mov (.t 0)), 0, []⟩, ⟨(some 32), .none, (.call 17 [(.t 31)]), 1, []⟩, ⟨(some 9), .none, (.mov (.t 32)), 2, []⟩]) (.seq (.reg false [⟨(some 33), .none, (.mov (.t 1)), 0, []⟩, ⟨(some 34), .none, (.call 21 [(.t 33)]), 1, []⟩, ⟨(some 10), .none, (.mov (.t 34)), 2, []⟩]) (.seq (.reg false [⟨(some 35), .none, (.mov (.t 2)), 0, []⟩, ⟨(some 36), .none, (.call 21 [(.t 35)]), 1, []⟩, ⟨(some 11), .none, (.mov (.t 36)), 2, []⟩]) (.seq (.reg false [⟨(some 37), .none, (.mov (.t 9)), 0, []⟩, ⟨(some 38), .none, (.mov (.t 10)), 1, []⟩, ⟨(some 39), .none, (.mov (.t 11)), 2, []⟩, ⟨(some 40), .none, (.call 22 [(.t 37), (.t 38), (.t 39)]), 3, []⟩, ⟨(some 12), .none, (.mov (.t 40)), 4, []⟩]) (.seq (.seq (.reg false [⟨(some 41), .none, (.mov (.t 12)), 0, []⟩, ⟨(some 42), .none, (.mov (.t 8)), 1, []⟩, ⟨(some 43), .none, (.beq true (.t 41) (.t 42)), 2, []⟩]) (.cond (.t 43) (.seq (.reg false [⟨(some 6), .none, (.mov (.c (.bool false))), 0, []⟩]) .ret) .skip)) (.seq (.seq (.reg false [⟨(some 44), .none, (.mov (.t 9)), 0, []⟩, ⟨(some 45), .none, (.mov (.t 0)), 1, []⟩, ⟨(some 46), .none, (.call 17 [(.t 45)]), 2, []⟩, ⟨(some 47), .none, (.call 19 [(.t 44), (.t 46)]), 3, []⟩, ⟨(some 48), .none, (.un .not (.t 47)), 4, []⟩]) (.cond (.t 48) (.seq (.reg false [⟨(some 6), .none, (.mov (.c (.bool false))), 0, []⟩]) .ret) .skip)) (.seq (.seq (.reg false [⟨(some 49), .none, (.mov (.t 10)), 0, []⟩, ⟨(some 50), .none, (.mov (.t 1)), 1, []⟩, ⟨(some 51), .none, (.call 21 [(.t 50)]), 2, []⟩, ⟨(some 52), .none, (.call 23 [(.t 49), (.t 51)]), 3, []⟩, ⟨(some 53), .none, (.un .not (.t 52)), 4, []⟩]) (.cond (.t 53) (.seq (.reg false [⟨(some 6), .none, (.mov (.c (.bool false))), 0, []⟩]) .ret) .skip)) (.seq (.seq (.reg false [⟨(some 54), .none, (.mov (.t 11)), 0, []⟩, ⟨(some 55), .none, (.mov (.t 2)), 1, []⟩, ⟨(some 56), .none, (.call 21 [(.t 55)]), 2, []⟩, ⟨(some 57), .none, (.call 23 [(.t 54), (.t 56)]), 3, []⟩, ⟨(some 58), .none, (.un .not (.t 57)), 4, []⟩]) (.cond (.t 58) (.seq (.reg false [⟨(some 6), .none, (.mov (.c (.bool false))), 0, []⟩]) .ret) .skip)) (.seq (.reg false [⟨(some 6), .none, (.mov (.c (.bool true))), 0, []⟩]) .ret)))))))))))))))), [(.t 6)]⟩
theorem k4 : EE.fns 4 = some c4 := by kernel_rfl
def c61 : CF := ⟨18, (.seq (.reg false [⟨(some 4), .none, (.mov (.c (.bool false))), 0, []⟩]) (.seq (.seq (.reg false [⟨(some 5), .none, (.mov (.c (.int .i64 0))), 0, []⟩]) (.block 0 (.loop (.seq (.seq (.reg false [⟨(some 6), .none, (.mov (.t 5)), 0, []⟩, ⟨(some 7), .none, (.mov (.t 0)), 1, []⟩, ⟨(some 8), .none, (.lenS (.t 7)), 2, []⟩, ⟨(some 9), .none, (.bin .lss (.t 6) (.t 8)), 3, []⟩]) (.cond (.t 9) .skip (.exit 0))) (.seq (.block 1 (.seq (.reg false [⟨(some 12), .none, (.mov (.t 0)), 0, []⟩, ⟨(some 13), .none, (.mov (.t 5)), 1, []⟩, ⟨(some 14), .none, (.iadr 1 (.t 12) (.t 13)), 2, []⟩, ⟨(some 15), .none, (.load 1 false (.t 14)), 3, []⟩, ⟨(some 16), .none, (.mov (.t 1)), 4, []⟩, ⟨(some 17), .none, (.bin .eql (.t 15) (.t 16)), 5, []⟩]) (.cond (.t 17) (.seq (.reg false [⟨(some 4), .none, (.mov (.c (.bool true))), 0, []⟩]) .ret) .skip))) (.reg false [⟨(some 10), .none, (.mov (.t 5)), 0, []⟩, ⟨(some 11), .none, (.bin .add (.t 10) (.c (.int .i64 1))), 1, []⟩, ⟨(some 5), .none, (.mov (.t 11)), 2, []⟩])))))) (.seq (.reg false [⟨(some 4), .none, (.mov (.c (.bool false))), 0, []⟩]) .ret))), [(.t 4)]⟩
theorem k61 : EE.fns 61 = some c61 := by kernel_rfl
def c62 : CF := ⟨9, (.seq (.reg false [⟨(some 4), .none, (.mov (.c (.bool false))), 0, []⟩]) (.seq (.reg false [⟨(some 5), .none, (.mov (.t 0)), 0, []⟩, ⟨(some 6), .none, (.mov (.t 1)), 1, []⟩, ⟨(some 7), .none, (.call 85 [(.t 5), (.t 6)]), 2, []⟩, ⟨(some 8), .none, (.bin .geq (.t 7) (.c (.int .i64 0))), 3, []⟩, ⟨(some 4), .none, (.mov (.t 8)), 4, []⟩]) .ret)), [(.t 4)]⟩
theorem k62 : EE.fns 62 = some c62 := by kernel_rfl
def c85 : CF := ⟨19, (.seq (.reg false [⟨(some 4), .none, (.mov (.c (.int .i64 0))), 0, []⟩]) (.seq (.seq (.reg false [⟨(some 6), .none, (.mov (.t 0)), 0, []⟩, ⟨(some 7), .none, (.lenS (.t 6)), 1, []⟩, ⟨(some 8), .none, (.mov (.c (.int .i64 0))), 2, []⟩]) (.block 0 (.loop (.seq (.reg false [⟨(some 9), .none, (.bin .lss (.t 8) (.t 7)), 0, []⟩]) (.seq (.cond (.t 9) .skip (.exit 0)) (.seq (.block 1 (.seq (.reg false [⟨(some 10), .none, (.mov (.t 8)), 0, []⟩, ⟨(some 5), .none, (.mov (.t 10)), 1, []⟩]) (.seq (.reg false [⟨(some 11), .none, (.mov (.t 1)), 0, []⟩, ⟨(some 12), .none, (.mov (.t 0)), 1, []⟩, ⟨(some 13), .none, (.mov (.t 5)), 2, []⟩, ⟨(some 14), .none, (.iadr 1 (.t 12) (.t 13)), 3, []⟩, ⟨(some 15), .none, (.load 1 false (.t 14)), 4, []⟩, ⟨(some 16), .none, (.bin .eql (.t 11) (.t 15)), 5, []⟩]) (.cond (.t 16) (.seq (.reg false [⟨(some 17), .none, (.mov (.t 5)), 0, []⟩, ⟨(some 4), .none, (.mov (.t 17)), 1, []⟩]) .ret) .skip)))) (.reg false [⟨(some 18), .none, (.bin .add (.t 8) (.c (.int .i64 1))), 0, []⟩, ⟨(some 8), .none, (.mov (.t 18)), 1, []⟩]))))))) (.seq (.reg false [⟨(some 4), .none, (.mov (.c (.int .i64 (-1)))), 0, []⟩]) .ret))), [(.t 4)]⟩
theorem k85 : EE.fns 85 = some c85 := by kernel_rfl
end Go.Proofs.Ytdplmjlbkaipiaa.Ev

/- Ways between realms: rows of hops, what is told of them. -/
namespace Go.Proofs.Ytdplmjlbkaipiaa.Ev
set_option linter.all false
open Go
set_option maxRecDepth 4000

/-- A fresh slice of numbers and the like. -/
def FreshS {α : Type} (enc : α → List Value) (esz : Nat) (H : Hp) (v : Value) (H' : Hp) (l : List α) : Prop := H <+: H' ∧ Sl (En enc) esz H' v l ∧ OwnS H.length v

end Go.Proofs.Ytdplmjlbkaipiaa.Ev

/- Rows of numbers. -/
namespace Go.Proofs.Ytdplmjlbkaipiaa.Ev
set_option linter.all false
open Go
set_option maxRecDepth 4000

abbrev SlI (H : Hp) (v : Value) (l : List Int) : Prop := Sl (En eI) 1 H v l

theorem Sl.int {H : Hp} {v : Value} {l : List Int} (h : SlI H v l) {i : Nat} {a : Int} (hi : l[i]? = some a) : ∃ id p o, H[id]? = some o ∧ o[p]? = some (.int .i64 a) ∧
    ∀ (s : St) (x y : X), exv s.ρ x = some v → exv s.ρ y = some (.int .i64 i) → iadrK s 1 x y = some (.val (.pointer (some ⟨id, p, some o.length⟩)), s) := by
  obtain ⟨id, p, o, ho, hr, hp, hia⟩ := h.elem hi
  unfold En at hr
  exact ⟨id, p, o, ho, by simpa [eI] using getElem?_of_take hr (j := 0) (by omega), hia⟩

theorem f61 {H : Hp} {v : Value} {l : List Int} {h : Int} (hl : SlI H v l) : Scal EE 61 [v, .int .i64 h] H (.bool (decide (h ∈ l))) := by
  refine scal_ok rfl rfl k61 (by simp [c61]) rfl fun m hw => ?_
  have hroom := hl.room
  simp only [go_sem, ↓reduceIte, Nat.reduceEqDiff, reduceCtorEq, Nat.reduceAdd, Nat.reduceLeDiff, Nat.reduceMul, c61]
  refine go_for l.length (fun i s => s.H = H ∧ s.ρ 0 = .val v ∧ s.ρ 1 = .val (.int .i64 h) ∧ s.ρ 5 = .val (.int .i64 i) ∧ h ∉ l.take i) (fun s => s.H = H ∧ h ∉ l) (by simp [upd, ini]) ?_ ?_
  · rintro i s hi ⟨hH, h0, h3, h5, hn⟩
    simp only [go_sem, ↓reduceIte, Nat.reduceEqDiff, reduceCtorEq, Nat.reduceAdd, Nat.reduceLeDiff, Nat.reduceMul, h0, h3, h5, hl.len]
    refine brT.intro (fun h1 => ?_) (fun h1 => ?_) <;> simp only [go_sem, ↓reduceIte, Nat.reduceEqDiff, reduceCtorEq, Nat.reduceAdd, Nat.reduceLeDiff, Nat.reduceMul, h0, h3, h5]
    · have h2 : i < l.length := by simpa using h1
      obtain ⟨id, p, o, ho, hr, hia⟩ := hl.int (List.getElem?_eq_getElem h2)
      simp only [go_sem, ↓reduceIte, Nat.reduceEqDiff, reduceCtorEq, Nat.reduceAdd, Nat.reduceLeDiff, Nat.reduceMul, h0, h3, h5, hia, hH, ho, hr]
      refine brT.intro (fun h4 => ?_) (fun h4 => ?_) <;> simp only [go_sem, ↓reduceIte, Nat.reduceEqDiff, reduceCtorEq, Nat.reduceAdd, Nat.reduceLeDiff, Nat.reduceMul, h0, h3, h5, wrap64 ((i : Int) + 1) (by omega) (by omega)]
      · have : l[i] = h := of_decide_eq_true h4
        simp [← this]
      · exact ⟨h2, by simp, notin_succ h2 hn (of_decide_eq_false h4)⟩
    · have h2 : ¬ i < l.length := by simpa using h1
      rw [List.take_of_length_le (by omega)] at hn
      exact ⟨hH, hn⟩
  · rintro s ⟨hH, hn⟩
    simp only [go_sem, ↓reduceIte, Nat.reduceEqDiff, reduceCtorEq, Nat.reduceAdd, Nat.reduceLeDiff, Nat.reduceMul, hH, hn]

theorem f85 {H : Hp} {v : Value} {l : List Int} {h : Int} (hl : SlI H v l) : Scal EE 85 [v, .int .i64 h] H (.int .i64 (idxI l h)) := by
  refine scal_ok rfl rfl k85 (by simp [c85]) rfl fun m hw => ?_
  have hroom := hl.room
  simp only [go_sem, ↓reduceIte, Nat.reduceEqDiff, reduceCtorEq, Nat.reduceAdd, Nat.reduceLeDiff, Nat.reduceMul, c85, hl.len]
  refine go_for l.length (fun i s => s.H = H ∧ s.ρ 0 = .val v ∧ s.ρ 1 = .val (.int .i64 h) ∧ s.ρ 7 = .val (.int .i64 l.length) ∧ s.ρ 8 = .val (.int .i64 i) ∧ h ∉ l.take i) (fun s => s.H = H ∧ h ∉ l) (by simp [upd, ini]) ?_ ?_
  · rintro i s hi ⟨hH, h0, h3, h7, h8, hn⟩
    simp only [go_sem, ↓reduceIte, Nat.reduceEqDiff, reduceCtorEq, Nat.reduceAdd, Nat.reduceLeDiff, Nat.reduceMul, h0, h3, h7, h8]
    refine brT.intro (fun h1 => ?_) (fun h1 => ?_) <;> simp only [go_sem, ↓reduceIte, Nat.reduceEqDiff, reduceCtorEq, Nat.reduceAdd, Nat.reduceLeDiff, Nat.reduceMul, h0, h3, h7, h8]
    · have h2 : i < l.length := by simpa using h1
      obtain ⟨id, p, o, ho, hr, hia⟩ := hl.int (List.getElem?_eq_getElem h2)
      simp only [go_sem, ↓reduceIte, Nat.reduceEqDiff, reduceCtorEq, Nat.reduceAdd, Nat.reduceLeDiff, Nat.reduceMul, h0, h3, h7, h8, hia, hH, ho, hr]
      refine brT.intro (fun h4 => ?_) (fun h4 => ?_) <;> simp only [go_sem, ↓reduceIte, Nat.reduceEqDiff, reduceCtorEq, Nat.reduceAdd, Nat.reduceLeDiff, Nat.reduceMul, h0, h3, h7, h8, wrap64 ((i : Int) + 1) (by omega) (by omega)]
      · exact (idxI_at h2 hn (of_decide_eq_true h4).symm).symm
      · exact ⟨h2, by simp, notin_succ h2 hn (fun e => of_decide_eq_false h4 e.symm)⟩
    · have h2 : ¬ i < l.length := by simpa using h1
      rw [List.take_of_length_le (by omega)] at hn
      exact ⟨hH, hn⟩
  · rintro s ⟨hH, hn⟩
    simp only [go_sem, ↓reduceIte, Nat.reduceEqDiff, reduceCtorEq, Nat.reduceAdd, Nat.reduceLeDiff, Nat.reduceMul, hH, hn]
    simp [idxI, hn]

theorem f62 {H : Hp} {v : Value} {l : List Int} {h : Int} (hl : SlI H v l) : Scal EE 62 [v, .int .i64 h] H (.bool (decide (h ∈ l))) := by
  refine scal_ok rfl rfl k62 (by simp [c62]) rfl fun m hw => ?_
  have a85 := fun {m draw s d ts Q} => callT_at (m := m) (draw := draw) (s := s) (d := d) (ts := ts) (Q := Q) (f85 (h := h) hl)
  simp only [go_sem, ↓reduceIte, Nat.reduceEqDiff, reduceCtorEq, Nat.reduceAdd, Nat.reduceLeDiff, Nat.reduceMul, c62, a85, hw]
  rw [Bool.eq_iff_iff]
  simp [idxI_nonneg]

end Go.Proofs.Ytdplmjlbkaipiaa.Ev

/- Marks in rows of numbers, and whether they are still there. -/
namespace Go.Proofs.Ytdplmjlbkaipiaa.Ev
set_option linter.all false
open Go
set_option maxRecDepth 4000

def marks (k : Int) (n : Nat) : List Int := (List.range n).map fun (j : Nat) => k + (j : Int)
theorem callT_now {E : Env} {m : Md} {f : Nat} {vs : List Value} {P : Value → Hp → Prop} {s : St} {d : Option Nat} {ts : List Tk} {Q : Ex → St → Prop} (h : Fun E m f vs s.H P)
    (hq : ∀ r H', P r H' → go E m ts { s with H := H', ρ := upd s.ρ d (.val r) } Q) : callT E m false f (some vs) s d ts Q := by
  unfold callT opt
  exact h.mono hq

end Go.Proofs.Ytdplmjlbkaipiaa.Ev
