/- Texts of this proof, laid one behind the other: what each shows stands at its head. -/
import Derived.Test.YtglboiahgpfjdaaGreatB2
import Derived.ChangeSame
import Derived.ChangeShapes
import Derived.WideShapes
import Derived.Carry
import Derived.Sort.Grow
import Derived.Test.YtglboiahgpfjdaaGreatProg
/- Code as a row of tasks: each step leaves a row of tasks behind, so that plain rewriting walks it. -/
namespace Go.Proofs.YtglboiahgpfjdaaGreat.Ev
set_option linter.all false
open Go

inductive Tk where
  | c (c : CC)
  | o (draw : Bool) (o : CO)
  | r (os : List CO)
  | d (ops os : List CO) (acc : List (List Nat × Bool))
  | e (ops os : List CO) (acc : List (List Nat × Bool × Bool)) (n0 : Nat)
  | w (ops os : List CO) (acc : List (List Nat × Bool × Bool)) (lo hi : Nat)
  | blk (id : Nat)

section
variable (E : Env) (m : Md)

mutual
def go : List Tk → St → (Ex → St → Prop) → Prop
  | [], s, Q => Q .normal s
  | .c c :: ts, s, Q => wpC E m c s fun e s' => thr e ts s' Q
  | .o draw o :: ts, s, Q => wpO E m draw s o fun s' => go ts s' Q
  | .r os :: ts, s, Q => wpR E m os s fun s' => go ts s' Q
  | .d ops os acc :: ts, s, Q => wpD3 E m ops os s acc fun s' => go ts s' Q
  | .e ops os acc n0 :: ts, s, Q => wpD4 E m ops n0 os s acc fun s' => go ts s' Q
  | .w ops os acc lo hi :: ts, s, Q => wpD5 E m ops lo hi os s acc fun s' => go ts s' Q
  | .blk _ :: ts, s, Q => go ts s Q
termination_by ts => (ts.length, 1)
def thr : Ex → List Tk → St → (Ex → St → Prop) → Prop
  | .normal, ts, s, Q => go ts s Q
  | .ret, _, s, Q => Q .ret s
  | .exit j, [], s, Q => Q (.exit j) s
  | .exit j, .blk i :: ts, s, Q => if j = i then go ts s Q else thr (.exit j) ts s Q
  | .exit j, _ :: ts, s, Q => thr (.exit j) ts s Q
termination_by _ ts => (ts.length, 2)
end

/-- What an operation left, and the tasks from there. -/
def aft (r : Option (FV × St)) (dst : Option Nat) (ts : List Tk) (Q : Ex → St → Prop) : Prop :=
  match r with
  | some (v, s') => go E m ts { s' with ρ := upd s'.ρ dst v } Q
  | none => False

/-- A call, and the tasks behind it. -/
def callT (draw : Bool) (f : Nat) (vs : Option (List Value)) (s : St) (dst : Option Nat) (ts : List Tk) (Q : Ex → St → Prop) : Prop :=
  opt vs fun vs => Fun E (if draw then m.drawn E.pw s.H f vs else m) f vs s.H fun r H => go E m ts { s with H := H, ρ := upd s.ρ dst (.val r) } Q

def callVT (draw : Bool) (fv : Option Value) (vs : Option (List Value)) (s : St) (dst : Option Nat) (ts : List Tk) (Q : Ex → St → Prop) : Prop :=
  match fv with
  | some (.func (.func f) first caps) => if first.size = 0 then callT E m draw f (match vs with | some vs => some (vs ++ caps.toList) | none => none) s dst ts Q else False
  | _ => False

def stp (draw : Bool) (s : St) (k : CK) (dst : Option Nat) (ts : List Tk) (Q : Ex → St → Prop) : Prop :=
  match k with
  | .call f args => callT E m draw f (exvs s.ρ args) s dst ts Q
  | .callV x args => callVT E m draw (exv s.ρ x) (exvs s.ρ args) s dst ts Q
  | k => aft E m (stepK m s k) dst ts Q

/-- Two ways. -/
def brT (c : Bool) (t1 : List Tk) (s1 : St) (t2 : List Tk) (s2 : St) (Q : Ex → St → Prop) : Prop :=
  (c = true → go E m t1 s1 Q) ∧ (c = false → go E m t2 s2 Q)

def grd (fv : FV) (b : Bool) (t1 : List Tk) (s : St) (t2 : List Tk) (s2 : St) (Q : Ex → St → Prop) : Prop :=
  match fv with
  | .val (.bool c) => brT E m (c == b) t1 s t2 s2 Q
  | .val (.tuple _) => go E m t2 s2 Q
  | _ => False

def cnd (v : Option Value) (t1 t2 : List Tk) (s : St) (Q : Ex → St → Prop) : Prop :=
  match v with
  | some (.bool c) => brT E m c t1 s t2 s Q
  | _ => False

section
variable {E m} {s s1 s2 : St} {Q : Ex → St → Prop} {ts t1 t2 : List Tk}

theorem go_nil : go E m [] s Q = Q .normal s := by rw [go]
theorem go_blk (i : Nat) : go E m (.blk i :: ts) s Q = go E m ts s Q := by rw [go]
theorem go_skip : go E m (.c .skip :: ts) s Q = go E m ts s Q := by rw [go, wpC, thr]
theorem go_ret : go E m (.c .ret :: ts) s Q = Q .ret s := by rw [go, wpC, thr]
theorem go_exit (j : Nat) : go E m (.c (.exit j) :: ts) s Q = thr E m (.exit j) ts s Q := by rw [go, wpC]
theorem go_seq (a b : CC) : go E m (.c (.seq a b) :: ts) s Q = go E m (.c a :: .c b :: ts) s Q := by
  rw [go, wpC, go]
  congr 1
  funext e s'
  cases e with
  | normal => simp only [thr, go]
  | exit j => simp only [thr]
  | ret => simp only [thr]
theorem go_block (i : Nat) (c : CC) : go E m (.c (.block i c) :: ts) s Q = go E m (.c c :: .blk i :: ts) s Q := by
  rw [go, wpC, go]
  congr 1
  funext e s'
  cases e with
  | normal => simp only [thr, go]
  | exit j => simp only [thr]
  | ret => simp only [thr]
theorem go_reg (os : List CO) : go E m (.c (.reg false os) :: ts) s Q = go E m (.r os :: ts) s Q := by
  simp only [go, wpC, thr]
theorem go_r0 : go E m (.r [] :: ts) s Q = go E m ts s Q := by simp only [go, wpR]
theorem go_r (o : CO) (os : List CO) : go E m (.r (o :: os) :: ts) s Q = go E m (.o false o :: .r os :: ts) s Q := by simp only [go, wpR]
theorem go_d0 (ops : List CO) (acc : List (List Nat × Bool)) : go E m (.d ops [] acc :: ts) s Q = (chk ops acc.reverse = true ∧ go E m ts s Q) := by simp only [go, wpD3]
theorem go_d (ops os : List CO) (o : CO) (acc : List (List Nat × Bool)) : go E m (.d ops (o :: os) acc :: ts) s Q = go E m (.o true o :: .d ops os (boxOf s.ρ o :: acc) :: ts) s Q := by simp only [go, wpD3]
theorem go_e0 (ops : List CO) (acc : List (List Nat × Bool × Bool)) (n0 : Nat) : go E m (.e ops [] acc n0 :: ts) s Q = (chk2 E.pw ops acc.reverse = true ∧ go E m ts s Q) := by simp only [go, wpD4]
theorem go_e (ops os : List CO) (o : CO) (acc : List (List Nat × Bool × Bool)) (n0 : Nat) : go E m (.e ops (o :: os) acc n0 :: ts) s Q = go E m (.o true o :: .e ops os (box2 n0 s o :: acc) n0 :: ts) s Q := by simp only [go, wpD4]
theorem go_w0 (ops : List CO) (acc : List (List Nat × Bool × Bool)) (lo hi : Nat) : go E m (.w ops [] acc lo hi :: ts) s Q = (chk3 E.pw ops acc.reverse = true ∧ go E m ts s Q) := by simp only [go, wpD5]
theorem go_w (ops os : List CO) (o : CO) (acc : List (List Nat × Bool × Bool)) (lo hi : Nat) : go E m (.w ops (o :: os) acc lo hi :: ts) s Q = go E m (.o true o :: .w ops os (box3 lo hi s o :: acc) lo hi :: ts) s Q := by simp only [go, wpD5]
theorem go_cond (x : X) (a b : CC) : go E m (.c (.cond x a b) :: ts) s Q = cnd E m (exv s.ρ x) (.c a :: ts) (.c b :: ts) s Q := by
  simp only [go, wpC, cnd]
  generalize exv s.ρ x = v
  rcases v with _ | v
  · rfl
  · cases v <;> simp only [Br, brT, go]

theorem stp_wpK {draw : Bool} {k : CK} {dst : Option Nat} : (wpK E m draw s k fun v s' => go E m ts { s' with ρ := upd s'.ρ dst v } Q) = stp E m draw s k dst ts Q := by
  cases k with
  | call f args => simp only [wpK, stp, callT]
  | callV x args =>
    simp only [wpK, stp, callVT]
    generalize exv s.ρ x = v
    rcases v with _ | v
    · rfl
    · cases v with
      | func fn first caps =>
        cases fn with
        | func f =>
          simp only
          cases exvs s.ρ args with
          | none => simp [callT, opt]
          | some vs =>
            simp only [callT, opt]
            by_cases h0 : first.size = 0
            · simp [h0]
            · simp [h0]
        | _ => rfl
      | _ => rfl
  | _ =>
    simp only [wpK, stp, aft, opt]
    split <;> simp_all

theorem go_o (draw : Bool) (d : Option Nat) (k : CK) (i : Nat) (p : List Nat) : go E m (.o draw ⟨d, none, k, i, p⟩ :: ts) s Q = stp E m draw s k d ts Q := by
  rw [← stp_wpK]
  simp only [go, wpO]
theorem go_g (draw : Bool) (d : Option Nat) (t : Nat) (b : Bool) (k : CK) (i : Nat) (p : List Nat) : go E m (.o draw ⟨d, some (t, b), k, i, p⟩ :: ts) s Q =
    grd E m (s.ρ t) b (.o draw ⟨d, none, k, i, p⟩ :: ts) s ts { s with ρ := upd s.ρ d (.val (.tuple #[])) } Q := by
  simp only [go, wpO, grd]
  generalize s.ρ t = v
  cases v with
  | val v => cases v <;> simp only [Br, brT, go, wpO]
  | _ => rfl

theorem aft_some (v : FV) (d : Option Nat) : aft E m (some (v, s1)) d ts Q = go E m ts { s1 with ρ := upd s1.ρ d v } Q := rfl
theorem cnd_bool (c : Bool) : cnd E m (some (.bool c)) t1 t2 s Q = brT E m c t1 s t2 s Q := rfl
theorem grd_bool (c b : Bool) : grd E m (.val (.bool c)) b t1 s t2 s2 Q = brT E m (c == b) t1 s t2 s2 Q := rfl
theorem grd_tup (c : Array Value) (b : Bool) : grd E m (.val (.tuple c)) b t1 s t2 s2 Q = go E m t2 s2 Q := rfl
theorem brT_true : brT E m true t1 s1 t2 s2 Q = go E m t1 s1 Q := by simp [brT]
theorem brT_false : brT E m false t1 s1 t2 s2 Q = go E m t2 s2 Q := by simp [brT]
theorem brT_not (c : Bool) : brT E m (!c) t1 s1 t2 s2 Q = brT E m c t2 s2 t1 s1 Q := by cases c <;> simp [brT]
theorem brT.intro {c : Bool} (h1 : c = true → go E m t1 s1 Q) (h2 : c = false → go E m t2 s2 Q) : brT E m c t1 s1 t2 s2 Q := ⟨h1, h2⟩
theorem thr_exit (j i : Nat) : thr E m (.exit j) (.blk i :: ts) s Q = if j = i then go E m ts s Q else thr E m (.exit j) ts s Q := by simp only [thr]
theorem thr_c (j : Nat) (c : CC) : thr E m (.exit j) (.c c :: ts) s Q = thr E m (.exit j) ts s Q := by simp only [thr]
theorem thr_nil (j : Nat) : thr E m (.exit j) [] s Q = Q (.exit j) s := by simp only [thr]

theorem go_run {c : CC} (h : go E m [.c c] s Q) : Run E m c s Q := by
  rw [go] at h
  refine (wpC_ok h).mono fun e s' h => ?_
  cases e with
  | normal => rw [thr, go] at h; exact h
  | exit j => rw [thr] at h; exact h
  | ret => rw [thr] at h; exact h

theorem wpR_mono : ∀ {os : List CO} {s : St} {P P' : St → Prop}, wpR E m os s P → (∀ s', P s' → P' s') → wpR E m os s P'
  | [], _, _, _, h, hq => hq _ h
  | _ :: _, _, _, _, h, hq => wpO_mono h fun _ h' => wpR_mono h' hq

theorem wpD_mono : ∀ {os : List CO} {s : St} {acc : List (CO × Inf)} {P P' : St → Prop}, wpD E m os s acc P → (∀ s', P s' → P' s') → wpD E m os s acc P'
  | [], _, _, _, _, h, hq => ⟨h.1, hq _ h.2⟩
  | _ :: _, _, _, _, _, h, hq => wpO_mono h fun _ h' => wpD_mono h' hq

/-- A region with an open order, in which no call or writing stands in the open. -/
theorem go_draw {os : List CO} (h : go E m (.d os os [] :: ts) s Q) : go E m (.c (.reg true os) :: ts) s Q := by
  simp only [go, wpC, thr] at h ⊢
  exact wpD_easy h

/-- Cut: what code does is told by itself. -/
theorem go_cut {c : CC} {P : Ex → St → Prop} (h : Run E m c s P) (hq : ∀ e s', P e s' → thr E m e ts s' Q) (hl : ∃ b, c = .loop b) : go E m (.c c :: ts) s Q := by
  obtain ⟨b, rfl⟩ := hl
  rw [go, wpC]
  exact h.mono hq

theorem wpC_mono : ∀ {c : CC} {s : St} {P P' : Ex → St → Prop}, wpC E m c s P → (∀ e s', P e s' → P' e s') → wpC E m c s P'
  | .skip, _, _, _, h, hq => hq _ _ h
  | .exit _, _, _, _, h, hq => hq _ _ h
  | .ret, _, _, _, h, hq => hq _ _ h
  | .reg false _, _, _, _, h, hq => wpR_mono h (hq _)
  | .reg true _, _, _, _, h, hq => wpD_mono h (hq _)
  | .seq a b, s, P, P', h, hq => by
    simp only [wpC] at h ⊢
    refine wpC_mono (c := a) h fun e s' h' => ?_
    cases e with
    | normal => exact wpC_mono h' hq
    | exit j => exact hq _ _ h'
    | ret => exact hq _ _ h'
  | .cond c a b, s, P, P', h, hq => by
    simp only [wpC] at *
    revert h
    generalize exv s.ρ c = v
    rcases v with _ | v
    · exact fun h => h
    · cases v <;> first | exact fun h => h | exact fun h => ⟨fun e => wpC_mono (h.1 e) hq, fun e => wpC_mono (h.2 e) hq⟩
  | .block id c, s, P, P', h, hq => by
    simp only [wpC] at h ⊢
    refine wpC_mono (c := c) h fun e s' h' => ?_
    cases e with
    | normal => exact hq _ _ h'
    | exit j =>
      by_cases hj : j = id
      · simp only [if_pos hj] at *; exact hq _ _ h'
      · simp only [if_neg hj] at *; exact hq _ _ h'
    | ret => exact hq _ _ h'
  | .loop _, _, _, _, h, hq => h.mono hq

theorem go_mono {c : CC} {P P' : Ex → St → Prop} (h : go E m [.c c] s P) (hq : ∀ e s', P e s' → P' e s') : go E m [.c c] s P' := by
  rw [go] at *
  refine wpC_mono h fun e s' h => ?_
  cases e with
  | normal => simp only [thr, go] at *; exact hq _ _ h
  | exit j => simp only [thr] at *; exact hq _ _ h
  | ret => simp only [thr] at *; exact hq _ _ h

/-- A loop in its block: what holds at its head, what holds behind it. -/
theorem go_loop {i : Nat} {c : CC} (I : Nat → St → Prop) (P : St → Prop) (n : Nat) (h0 : I n s)
    (step : ∀ n s, I n s → go E m [.c c] s fun e s' => match e with
      | .normal => ∃ n' < n, I n' s'
      | .exit j => j = i ∧ P s'
      | .ret => Q .ret s')
    (hp : ∀ s, P s → go E m ts s Q) : go E m (.c (.loop c) :: .blk i :: ts) s Q := by
  refine go_cut (P := fun e s' => match e with
    | .normal => False
    | .exit j => j = i ∧ P s'
    | .ret => Q .ret s') ?_ (fun e s' h => ?_) ⟨_, rfl⟩
  · refine loop_ok I (fun n s hi => ?_) n s h0
    have := step n s hi
    rw [go] at this
    revert this
    generalize hk : wpC E m c s = w
    intro h
    subst hk
    have e : (fun e s' => thr E m e [] s' fun e s' => match e with
      | .normal => ∃ n' < n, I n' s'
      | .exit j => j = i ∧ P s'
      | .ret => Q .ret s') = fun e s' => match e with
      | .normal => ∃ n' < n, I n' s'
      | .exit j => j = i ∧ P s'
      | .ret => Q .ret s' := by
      funext e s'
      cases e <;> simp only [thr, go]
    rw [e] at h
    exact h
  · cases e with
    | normal => exact h.elim
    | exit j =>
      obtain ⟨rfl, hP⟩ := h
      rw [thr, if_pos rfl]
      exact hp _ hP
    | ret => rw [thr]; exact h

theorem callT_ok {draw : Bool} {f : Nat} {vs : List Value} {d : Option Nat} {P : Value → Hp → Prop} (h : ∀ m', (∀ id, s.H.length ≤ id → m.wr id = true) → (∀ id, s.H.length ≤ id → m'.wr id = true) → (m'.nr = m.nr) → (draw = false → m' = m) → Fun E m' f vs s.H P) (hw : ∀ id, s.H.length ≤ id → m.wr id = true)
    (hq : ∀ r H, P r H → go E m ts { s with H := H, ρ := upd s.ρ d (.val r) } Q) : callT E m draw f (some vs) s d ts Q := by
  unfold callT opt
  refine Fun.mono (h _ hw (fun id hid => ?_) ?_ ?_) hq
  · cases draw with
    | false => exact hw id hid
    | true => simp only [if_true, Md.drawn]; simp [hid]
  · cases draw <;> rfl
  · rintro rfl; rfl

end
end
end Go.Proofs.YtglboiahgpfjdaaGreat.Ev

/- Slices as lists; functions that leave memory as it is. -/
namespace Go.Proofs.YtglboiahgpfjdaaGreat.Ev
set_option linter.all false
open Go

section
variable {E : Env} {m : Md}

theorem Fun.det {f : Nat} {vs : List Value} {H : Hp} {P Q : Value → Hp → Prop} (h : Fun E m f vs H P) (k : Fun E m f vs H Q) : Fun E m f vs H fun r H' => P r H' ∧ Q r H' := by
  obtain ⟨k1, r1, H1, h1, h2⟩ := h
  obtain ⟨k2, r2, H2, h3, h4⟩ := k
  have e1 := evF_mono k2 h1
  have e2 := evF_mono k1 h3
  rw [Nat.add_comm] at e2
  rw [e1] at e2
  cases e2
  exact ⟨k1, r1, H1, h1, h2, h4⟩

/-- A function that answers this and leaves memory as it is, however it is called. -/
def Scal (E : Env) (f : Nat) (vs : List Value) (H : Hp) (r : Value) : Prop := ∀ m : Md, (∀ id, H.length ≤ id → m.wr id = true) → Fun E m f vs H fun r' H' => r' = r ∧ H' = H

theorem callT_scal {f : Nat} {vs : List Value} {H : Hp} {r : Value} (h : Scal E f vs H r) {draw : Bool} {s : St} {d : Option Nat} {ts : List Tk} {Q : Ex → St → Prop} (hH : s.H = H) (hw : ∀ id, H.length ≤ id → m.wr id = true) :
    callT E m draw f (some vs) s d ts Q = go E m ts { s with ρ := upd s.ρ d (.val r) } Q := by
  subst hH
  have hm := h (if draw then m.drawn E.pw s.H f vs else m) (fun id hid => by
    cases draw with
    | false => exact hw id hid
    | true => simp only [if_true, Md.drawn]; simp [hid])
  unfold callT opt
  simp only
  refine propext ⟨fun hf => ?_, fun hg => hm.mono fun r' H' ⟨e1, e2⟩ => by subst e1; subst e2; exact hg⟩
  obtain ⟨_, _, _, _, ⟨e1, e2⟩, h2⟩ := hm.det hf
  subst e1; subst e2
  exact h2

/-- New rows may be written. -/
def Wr (m : Md) (H : Hp) : Prop := ∀ id, H.length ≤ id → m.wr id = true

theorem callT_at {f : Nat} {vs : List Value} {H : Hp} {r : Value} (h : Scal E f vs H r) {draw : Bool} {s : St} {d : Option Nat} {ts : List Tk} {Q : Ex → St → Prop} (hH : s.H = H) (hw : Wr m H) :
    callT E m draw f (some vs) s d ts Q = go E m ts { s with ρ := upd s.ρ d (.val r) } Q := callT_scal h hH hw

theorem callT_to {f : Nat} {vs : List Value} {H : Hp} {P : Value → Hp → Prop} {draw : Bool} {s : St} {d : Option Nat} {ts : List Tk} {Q : Ex → St → Prop} (h : ∀ m' : Md, Wr m' H → Fun E m' f vs H P) (hH : s.H = H) (hw : Wr m H)
    (hq : ∀ r H', P r H' → go E m ts { s with H := H', ρ := upd s.ρ d (.val r) } Q) : callT E m draw f (some vs) s d ts Q := by
  subst hH
  exact callT_ok (fun m' _ h2 _ _ => h m' h2) hw hq

theorem Wr.pre {H H' : Hp} (h : Wr m H) (hp : H <+: H') : Wr m H' := fun id hid => h id (Nat.le_trans hp.length_le hid)

theorem Scal.fun {f : Nat} {vs : List Value} {H : Hp} {r : Value} (h : Scal E f vs H r) (hw : ∀ id, H.length ≤ id → m.wr id = true) {Q : Value → Hp → Prop} (hq : Q r H) : Fun E m f vs H Q :=
  (h m hw).mono fun _ _ ⟨e1, e2⟩ => by subst e1; subst e2; exact hq

/-- A slice that stands for a list; what an element's cells must be is told by R. -/
def Sl {α : Type} (R : α → List Value → Prop) (esz : Nat) (H : Hp) (v : Value) (l : List α) : Prop :=
  (v = .slice none 0 0 ∧ l = []) ∨ ∃ id off cap o, v = .slice (some ⟨id, off, some esz⟩) l.length cap ∧ H[id]? = some o ∧ off + cap = o.length ∧ l.length * esz ≤ cap ∧ l.length ≤ 9223372036854775807 ∧
    ∀ i a, l[i]? = some a → R a ((o.drop (off + i * esz)).take esz)

/-- Elements of plain cells. -/
def En {α : Type} (enc : α → List Value) (a : α) (cs : List Value) : Prop := cs = enc a

def eI (n : Int) : List Value := [.int .i64 n]

theorem getElem?_of_take {o : List Value} {a n j : Nat} {cs : List Value} (h : (o.drop a).take n = cs) (hj : j < n) : o[a + j]? = cs[j]? := by
  subst h
  rw [List.getElem?_take, if_pos hj, List.getElem?_drop]

section
variable {α : Type} {R : α → List Value → Prop} {esz : Nat} {H : Hp} {v : Value} {l : List α}

theorem Sl.len (h : Sl R esz H v l) {s : St} {x : X} (hx : exv s.ρ x = some v) : lenSK s x = some (.val (.int .i64 l.length), s) := by
  unfold lenSK
  rw [hx]
  rcases h with ⟨rfl, rfl⟩ | ⟨id, off, cap, o, rfl, _⟩ <;> rfl

theorem Sl.room (h : Sl R esz H v l) : l.length ≤ 9223372036854775807 := by
  rcases h with ⟨rfl, rfl⟩ | ⟨id, off, cap, o, rfl, ho, hc, hn, hrm, hr⟩
  · simp
  · exact hrm

theorem Sl.elem (h : Sl R esz H v l) {i : Nat} {a : α} (hi : l[i]? = some a) : ∃ id p o, H[id]? = some o ∧ R a ((o.drop p).take esz) ∧ p + esz ≤ o.length ∧
    ∀ (s : St) (x y : X), exv s.ρ x = some v → exv s.ρ y = some (.int .i64 i) → iadrK s esz x y = some (.val (.pointer (some ⟨id, p, some o.length⟩)), s) := by
  have hl := (List.getElem?_eq_some_iff.1 hi).1
  rcases h with ⟨rfl, rfl⟩ | ⟨id, off, cap, o, rfl, ho, hc, hn, hrm, hr⟩
  · simp at hi
  · have hm : (i + 1) * esz ≤ l.length * esz := Nat.mul_le_mul_right _ (by omega)
    rw [Nat.succ_mul] at hm
    refine ⟨id, off + i * esz, o, ho, hr i a hi, by omega, fun s x y hx hy => ?_⟩
    unfold iadrK
    rw [hx, hy]
    simp only [Int.toNat_natCast, hc]
    rw [if_pos ⟨trivial, by omega, by omega⟩]

theorem Sl.take (h : Sl R esz H v l) {i : Nat} (hi : i ≤ l.length) : ∃ v', Sl R esz H v' (l.take i) ∧
    ∀ (s : St) (x y : X), exv s.ρ x = some v → exv s.ρ y = some (.int .i64 i) → slcK s esz x none (some y) = some (.val v', s) := by
  rcases h with ⟨rfl, rfl⟩ | ⟨id, off, cap, o, rfl, ho, hc, hn, hrm, hr⟩
  · simp at hi
    subst hi
    refine ⟨.slice none 0 0, .inl ⟨rfl, by simp⟩, fun s x y hx hy => ?_⟩
    simp only [slcK, bnd, hx, hy]
    rfl
  · have hm : i * esz ≤ l.length * esz := Nat.mul_le_mul_right _ hi
    refine ⟨.slice (some ⟨id, off, some esz⟩) i cap, .inr ⟨id, off, cap, o, by rw [List.length_take, Nat.min_eq_left hi], ho, hc, by rw [List.length_take, Nat.min_eq_left hi]; omega, by rw [List.length_take]; omega, fun j a hj => ?_⟩, fun s x y hx hy => ?_⟩
    · rw [List.getElem?_take] at hj
      split at hj
      · exact hr j a hj
      · cases hj
    · simp only [slcK, bnd, hx, hy]
      rw [if_pos ⟨trivial, by omega, by omega, .inl (by omega), by simp⟩]
      simp [St.val]

/-- What stays as long as its rows stay. -/
theorem Sl.frame {R' : α → List Value → Prop} {H' : Hp} (h : Sl R esz H v l) (hr : ∀ a ∈ l, ∀ cs, R a cs → R' a cs) (hH : ∀ id off e len cap, v = .slice (some ⟨id, off, e⟩) len cap → H'[id]? = H[id]?) : Sl R' esz H' v l := by
  rcases h with ⟨rfl, rfl⟩ | ⟨id, off, cap, o, rfl, ho, hc, hn, hrm, hr2⟩
  · exact .inl ⟨rfl, rfl⟩
  · exact .inr ⟨id, off, cap, o, rfl, by rw [hH _ _ _ _ _ rfl]; exact ho, hc, hn, hrm, fun i a hi => hr a (List.mem_of_getElem? hi) _ (hr2 i a hi)⟩

end

/-- How a function ends. -/
def retT (v : Option Value) (tr : Bool) (H H' : Hp) (Q : Value → Hp → Prop) : Prop :=
  match v with
  | some v => (tr = true → flatScal v = true) ∧ Q v (if tr = true then H'.take H.length else H')
  | none => False

theorem post_ret {f : Nat} {res : List RV} {H : Hp} {Q : Value → Hp → Prop} {s : St} : FunPost E f res H Q .ret s = retT (resT s res) (E.tr f) H s.H Q := by
  unfold FunPost opt retT
  simp only
  cases resT s res with
  | none => rfl
  | some v => cases E.tr f <;> simp
theorem post_normal {f : Nat} {res : List RV} {H : Hp} {Q : Value → Hp → Prop} {s : St} : FunPost E f res H Q .normal s = retT (resT s res) (E.tr f) H s.H Q := by
  rw [← post_ret]; rfl
theorem retT_true {v : Value} {H H' : Hp} {Q : Value → Hp → Prop} : retT (some v) true H H' Q = (flatScal v = true ∧ Q v (H'.take H.length)) := by simp [retT]
theorem retT_false {v : Value} {H H' : Hp} {Q : Value → Hp → Prop} : retT (some v) false H H' Q = Q v H' := by simp [retT]
theorem flat_bool (b : Bool) : flatScal (.bool b) = true := rfl
theorem flat_int (k : IntKind) (n : Int) : flatScal (.int k n) = true := rfl
theorem flat_str (n : ByteArray) : flatScal (.string n) = true := rfl

/-- How a function's code is to end. -/
def Post (res : List RV) (tr : Bool) (H : Hp) (Q : Value → Hp → Prop) (e : Ex) (s : St) : Prop :=
  match e with
  | .exit _ => False
  | _ => retT (resT s res) tr H s.H Q
theorem Post_ret {res : List RV} {tr : Bool} {H : Hp} {Q : Value → Hp → Prop} {s : St} : Post res tr H Q .ret s = retT (resT s res) tr H s.H Q := rfl
theorem Post_normal {res : List RV} {tr : Bool} {H : Hp} {Q : Value → Hp → Prop} {s : St} : Post res tr H Q .normal s = retT (resT s res) tr H s.H Q := rfl
def PostS (res : List RV) (H : Hp) (r : Value) (e : Ex) (s : St) : Prop :=
  match e with
  | .exit _ => False
  | _ => resT s res = some r ∧ s.H.take H.length = H
theorem PostS_ret {res : List RV} {H : Hp} {r : Value} {s : St} : PostS res H r .ret s = (resT s res = some r ∧ s.H.take H.length = H) := rfl
theorem PostS_normal {res : List RV} {H : Hp} {r : Value} {s : St} : PostS res H r .normal s = (resT s res = some r ∧ s.H.take H.length = H) := rfl

theorem fun_ok {f : Nat} {cf : CF} {vs : List Value} {H : Hp} {Q : Value → Hp → Prop} {tr : Bool} (ht : E.tr f = tr) (hp : E.prim f = none) (hf : E.fns f = some cf) (hl : vs.length ≤ cf.nt)
    (h : go E { m with nr := m.nr || tr } [.c cf.body] { ρ := ini vs, gn := 0, H := H } (Post cf.res tr H Q)) : Fun E m f vs H Q := by
  subst ht
  refine Fun.intro hp hf hl ((go_run h).mono fun e s' h' => ?_)
  cases e with
  | normal => rw [post_normal]; exact h'
  | exit j => exact h'
  | ret => rw [post_ret]; exact h'

theorem fun_f {f : Nat} {cf : CF} {vs : List Value} {H : Hp} {Q : Value → Hp → Prop} (ht : E.tr f = false) (hp : E.prim f = none) (hf : E.fns f = some cf) (hl : vs.length ≤ cf.nt)
    (h : go E m [.c cf.body] { ρ := ini vs, gn := 0, H := H } (Post cf.res false H Q)) : Fun E m f vs H Q :=
  fun_ok ht hp hf hl (by rw [Bool.or_false]; exact h)

theorem scal_ok {f : Nat} {cf : CF} {vs : List Value} {H : Hp} {r : Value} (ht : E.tr f = true) (hp : E.prim f = none) (hf : E.fns f = some cf) (hl : vs.length ≤ cf.nt) (hr : flatScal r = true)
    (h : ∀ m : Md, Wr m H → go E m [.c cf.body] { ρ := ini vs, gn := 0, H := H } (PostS cf.res H r)) : Scal E f vs H r := by
  intro m hw
  refine Fun.intro hp hf hl ((go_run (h { m with nr := m.nr || E.tr f } hw)).mono fun e s' h' => ?_)
  cases e with
  | normal => rw [post_normal, h'.1, ht, retT_true]; exact ⟨hr, rfl, h'.2⟩
  | exit j => exact h'
  | ret => rw [post_ret, h'.1, ht, retT_true]; exact ⟨hr, rfl, h'.2⟩

/-- A loop that counts up. -/
theorem go_for {s : St} {Q : Ex → St → Prop} {ts : List Tk} {b : Nat} {c : CC} (N : Nat) (I : Nat → St → Prop) (P : St → Prop) (h0 : I 0 s)
    (step : ∀ i s, i ≤ N → I i s → go E m [.c c] s fun e s' => match e with
      | .normal => i < N ∧ I (i + 1) s'
      | .exit j => j = b ∧ P s'
      | .ret => Q .ret s')
    (hp : ∀ s, P s → go E m ts s Q) : go E m (.c (.loop c) :: .blk b :: ts) s Q := by
  refine go_loop (fun n s => ∃ i, n = N - i ∧ i ≤ N ∧ I i s) P N ⟨0, by simp, by simp, h0⟩ (fun n s h => ?_) hp
  obtain ⟨i, rfl, hi, hI⟩ := h
  refine go_mono (step i s hi hI) fun e s' h => ?_
  cases e with
  | normal => exact ⟨N - (i + 1), by omega, i + 1, rfl, by omega, h.2⟩
  | exit j => exact h
  | ret => exact h

theorem spl_nil (o : List Value) (i : Nat) : spl o i [] = o := rfl
theorem spl_z : ∀ (cs : List Value) (x : Value) (xs : List Value) (c : Value), spl (x :: xs) 0 (c :: cs) = c :: spl xs 0 cs := by
  have h : ∀ (cs : List Value) (x : Value) (xs : List Value) (i : Nat), spl (x :: xs) (i + 1) cs = x :: spl xs i cs := by
    intro cs
    induction cs with
    | nil => intros; rfl
    | cons c cs ih => intro x xs i; rw [spl, spl, List.set_cons_succ, ih]
  intro cs x xs c
  rw [spl, List.set_cons_zero, h]
theorem spl_s (cs : List Value) : ∀ (x : Value) (xs : List Value) (i : Nat), spl (x :: xs) (i + 1) cs = x :: spl xs i cs := by
  induction cs with
  | nil => intros; rfl
  | cons c cs ih => intro x xs i; rw [spl, spl, List.set_cons_succ, ih]
section
variable (cs : List Value) (x : Value) (xs : List Value)
theorem spl_1 : spl (x :: xs) 1 cs = x :: spl xs 0 cs := spl_s cs x xs 0
theorem spl_2 : spl (x :: xs) 2 cs = x :: spl xs 1 cs := spl_s cs x xs 1
theorem spl_3 : spl (x :: xs) 3 cs = x :: spl xs 2 cs := spl_s cs x xs 2
theorem spl_4 : spl (x :: xs) 4 cs = x :: spl xs 3 cs := spl_s cs x xs 3
theorem spl_5 : spl (x :: xs) 5 cs = x :: spl xs 4 cs := spl_s cs x xs 4
theorem spl_6 : spl (x :: xs) 6 cs = x :: spl xs 5 cs := spl_s cs x xs 5
theorem spl_7 : spl (x :: xs) 7 cs = x :: spl xs 6 cs := spl_s cs x xs 6
theorem spl_8 : spl (x :: xs) 8 cs = x :: spl xs 7 cs := spl_s cs x xs 7
end
theorem zeros_0 (z : List Value) : zeros 0 z = [] := rfl
theorem zeros_1 (z : List Value) : zeros 1 z = z := by simp [zeros]
theorem zeros_2 (z : List Value) : zeros 2 z = z ++ z := by simp [zeros, List.replicate_succ]
theorem zeros_3 (z : List Value) : zeros 3 z = z ++ (z ++ z) := by simp [zeros, List.replicate_succ]
theorem zeros_4 (z : List Value) : zeros 4 z = z ++ (z ++ (z ++ z)) := by simp [zeros, List.replicate_succ]
theorem vc_agg (cs : Array Value) : vc (.agg cs) = some cs.toList := rfl
theorem vc_int (k : IntKind) (n : Int) : vc (.int k n) = some [.int k n] := rfl
theorem vc_bool (b : Bool) : vc (.bool b) = some [.bool b] := rfl
theorem vc_str (b : ByteArray) : vc (.string b) = some [.string b] := rfl
theorem vc_ptr (p : Option Addr) : vc (.pointer p) = some [.pointer p] := rfl
theorem vc_sl (a : Option Addr) (l c : Nat) : vc (.slice a l c) = some [.slice a l c] := rfl
theorem vc_fn (f : Fn) (a c : Array Value) : vc (.func f a c) = some [.func f a c] := rfl
theorem Sl.vc {α : Type} {R : α → List Value → Prop} {esz : Nat} {H : Hp} {v : Value} {l : List α} (h : Sl R esz H v l) : vc v = some [v] := by
  rcases h with ⟨rfl, _⟩ | ⟨_, _, _, _, rfl, _⟩ <;> rfl
theorem scal_int (k : IntKind) (n : Int) : scal (.int k n) = true := rfl
theorem scal_bool (b : Bool) : scal (.bool b) = true := rfl
theorem scal_str (b : ByteArray) : scal (.string b) = true := rfl
theorem scal_nil : scal (.slice none 0 0) = true := rfl

theorem wrap64 (n : Int) (h0 : -9223372036854775808 ≤ n) (h1 : n < 9223372036854775808) : IntKind.i64.wrap n = n := by
  simp [IntKind.wrap, IntKind.bits, IntKind.signed]
  omega

end
end Go.Proofs.YtglboiahgpfjdaaGreat.Ev

/- Slices that are one's own: writing into them, growing them. -/
namespace Go.Proofs.YtglboiahgpfjdaaGreat.Ev
set_option linter.all false
open Go

/-- A slice with a row of its own, from N on, from the row's start. -/
def OwnS (N : Nat) (v : Value) : Prop := v = .slice none 0 0 ∨ ∃ id e len cap, v = .slice (some ⟨id, 0, some e⟩) len cap ∧ N ≤ id

theorem take_drop_get (o : List Value) (p n j : Nat) : ((o.drop p).take n)[j]? = if j < n then o[p + j]? else none := by
  rw [List.getElem?_take]
  split <;> simp [List.getElem?_drop]

theorem spl_same {o cs : List Value} {p : Nat} (h : p + cs.length ≤ o.length) : ((spl o p cs).drop p).take cs.length = cs := by
  refine List.ext_getElem? fun j => ?_
  rw [take_drop_get]
  by_cases hj : j < cs.length
  · rw [if_pos hj, spl_get, if_pos (by omega), if_pos (by omega), show p + j - p = j by omega]
  · rw [if_neg hj, List.getElem?_eq_none (by omega)]

theorem spl_other {o cs : List Value} {p q n : Nat} (h : q + n ≤ p ∨ p + cs.length ≤ q) : ((spl o p cs).drop q).take n = (o.drop q).take n := by
  refine List.ext_getElem? fun j => ?_
  rw [take_drop_get, take_drop_get]
  by_cases hj : j < n
  · rw [if_pos hj, if_pos hj, spl_get, if_neg (by omega)]
  · rw [if_neg hj, if_neg hj]

theorem pre_set {H0 H : Hp} {id : Nat} {r : List Value} (h : H0 <+: H) (hid : H0.length ≤ id) : H0 <+: H.set id r := by
  obtain ⟨t, rfl⟩ := h
  exact ⟨t.set (id - H0.length) r, by rw [List.set_append_right _ _ hid]⟩

theorem pre_push {H0 H : Hp} {r : List Value} (h : H0 <+: H) : H0 <+: H ++ [r] := by
  obtain ⟨t, rfl⟩ := h
  exact ⟨t ++ [r], by simp⟩

theorem pre_take {H0 H : Hp} (h : H0 <+: H) : H.take H0.length = H0 := by
  obtain ⟨t, rfl⟩ := h
  simp

theorem pre_get {H0 H : Hp} (h : H0 <+: H) {id : Nat} (hid : id < H0.length) : H[id]? = H0[id]? := by
  obtain ⟨t, rfl⟩ := h
  rw [List.getElem?_append_left hid]

section
variable {α : Type} {R : α → List Value → Prop} {esz : Nat} {H : Hp} {v : Value} {l : List α}

/-- What a slice says of older rows stays. -/
theorem Sl.pre {H' : Hp} (h : Sl R esz H v l) (hp : H <+: H') : Sl R esz H' v l := by
  rcases h with ⟨rfl, rfl⟩ | ⟨id, off, cap, o, rfl, ho, hc, hn, hrm, hr⟩
  · exact .inl ⟨rfl, rfl⟩
  · exact .inr ⟨id, off, cap, o, rfl, by rw [pre_get hp (List.getElem?_eq_some_iff.1 ho).1]; exact ho, hc, hn, hrm, hr⟩

theorem Sl.other {r : List Value} {id : Nat} (h : Sl R esz H v l) (hid : id ∉ idsOf v) : Sl R esz (H.set id r) v l := by
  rcases h with ⟨rfl, rfl⟩ | ⟨id', off, cap, o, rfl, ho, hc, hn, hrm, hr⟩
  · exact .inl ⟨rfl, rfl⟩
  · simp only [idsOf, List.mem_singleton] at hid
    exact .inr ⟨id', off, cap, o, rfl, by rw [List.getElem?_set_ne (by omega)]; exact ho, hc, hn, hrm, hr⟩

/-- Writing an element. -/
theorem Sl.store (h : Sl R esz H v l) {i : Nat} (hi : i < l.length) : ∃ id p o, H[id]? = some o ∧ p + esz ≤ o.length ∧ idsOf v = [id] ∧
    (∀ (s : St) (x y : X), exv s.ρ x = some v → exv s.ρ y = some (.int .i64 i) → iadrK s esz x y = some (.val (.pointer (some ⟨id, p, some o.length⟩)), s)) ∧
    ∀ a cs, cs.length = esz → R a cs → Sl R esz (H.set id (spl o p cs)) v (l.set i a) := by
  rcases h with ⟨rfl, rfl⟩ | ⟨id, off, cap, o, rfl, ho, hc, hn, hrm, hr⟩
  · simp at hi
  · have hm : (i + 1) * esz ≤ l.length * esz := Nat.mul_le_mul_right _ (by omega)
    rw [Nat.succ_mul] at hm
    have hid := (List.getElem?_eq_some_iff.1 ho).1
    refine ⟨id, off + i * esz, o, ho, by omega, rfl, fun s x y hx hy => ?_, fun a cs hcs hRa => .inr ⟨id, off, cap, spl o (off + i * esz) cs, by rw [List.length_set], by rw [List.getElem?_set_self hid], by rw [spl_length]; exact hc, by rw [List.length_set]; exact hn, by rw [List.length_set]; exact hrm, fun j b hj => ?_⟩⟩
    · unfold iadrK
      rw [hx, hy]
      simp only [Int.toNat_natCast, hc]
      rw [if_pos ⟨trivial, by omega, by omega⟩]
    · rw [List.getElem?_set] at hj
      split at hj
      · rename_i hij
        subst hij
        cases hj
        have := spl_same (o := o) (cs := cs) (p := off + i * esz) (by omega)
        rw [hcs] at this
        rw [this]
        exact hRa
      · rename_i hij
        rw [spl_other]
        · exact hr j b hj
        · rw [hcs]
          by_cases hlt : j < i
          · have : (j + 1) * esz ≤ i * esz := Nat.mul_le_mul_right _ (by omega)
            rw [Nat.succ_mul] at this
            exact .inl (by omega)
          · have : (i + 1) * esz ≤ j * esz := Nat.mul_le_mul_right _ (by omega)
            rw [Nat.succ_mul] at this
            exact .inr (by omega)

/-- A new slice of equal elements. -/
theorem make_sl {z : α} {zero : List Value} {n bytes : Nat} (hz : zero.length = esz) (hR : R z zero) (hn : n ≤ room) (hb : n * bytes ≤ room) :
    Sl R esz (H ++ [zeros n zero]) (.slice (some ⟨H.length, 0, some esz⟩) n (n * esz)) (List.replicate n z) ∧
    ∀ (s : St) (x y : X), s.H = H → exv s.ρ x = some (.int .i64 n) → exv s.ρ y = some (.int .i64 n) → makeSK s esz bytes zero x y = some (.val (.slice (some ⟨H.length, 0, some esz⟩) n (n * esz)), { s with H := H ++ [zeros n zero] }) := by
  have hlen : (zeros n zero).length = n * esz := by simp [zeros, hz]
  constructor
  · refine .inr ⟨H.length, 0, n * esz, zeros n zero, by rw [List.length_replicate], by rw [List.getElem?_append_right (Nat.le_refl _), Nat.sub_self]; rfl, by omega, by rw [List.length_replicate]; exact Nat.le_refl _, by rw [List.length_replicate]; unfold room at hn; omega, fun i a hi => ?_⟩
    rw [List.getElem?_replicate] at hi
    split at hi
    · rename_i hin
      cases hi
      have : ((zeros n zero).drop (0 + i * esz)).take esz = zero := by
        unfold zeros
        have := List.replicate_append_replicate (n := i) (m := n - i) (a := zero)
        rw [show i + (n - i) = n by omega] at this
        rw [← this, List.flatten_append, Nat.zero_add, List.drop_left' (by rw [List.length_flatten]; simp [hz]), show n - i = (n - i - 1) + 1 by omega, List.replicate_succ, List.flatten_cons, List.take_left' hz]
      rw [this]
      exact hR
    · cases hi
  · intro s x y hH hx hy
    unfold makeSK
    rw [hx, hy]
    simp only [Int.toNat_natCast, hH]
    unfold room at hn hb
    have hb2 : ((n * bytes : Nat) : Int) ≤ (140737488355328 : Int) := by omega
    rw [Int.natCast_mul] at hb2
    rw [if_pos ⟨by omega, by omega, hb2, by omega⟩]

end
end Go.Proofs.YtglboiahgpfjdaaGreat.Ev

/- What comes in by a law's parameters, as rows of the small machine. -/
namespace Go.Proofs.YtglboiahgpfjdaaGreat.Ev
set_option linter.all false
open Go Go.ChangeShapes Go.WideShapes Go.RowKit

/-- Is there a block of cells at all? -/
def Blk (w : World) : Prop := ∃ (b : Nat) (ds : Array Value) (e : TypeId) (lo hi : Nat), w.heap[b]? = some (.cells ds e (lo, hi))

/-- Rows that are only read. -/
def RdRel (J : Inj) (M : Hp) (w : World) : Prop := WRel M.length J M w

def Ext (J : Inj) (M : Hp) (J' : Inj) (M' : Hp) : Prop := M <+: M' ∧ ∀ id, id < M.length → J' id = J id

theorem Ext.refl (J : Inj) (M : Hp) : Ext J M J M := ⟨List.prefix_refl _, fun _ _ => rfl⟩
theorem Ext.trans {J J' J'' : Inj} {M M' M'' : Hp} (h : Ext J M J' M') (k : Ext J' M' J'' M'') : Ext J M J'' M'' :=
  ⟨h.1.trans k.1, fun id hid => (k.2 id (Nat.lt_of_lt_of_le hid h.1.length_le)).trans (h.2 id hid)⟩
theorem Ext.keep {J J' : Inj} {M M' : Hp} (h : Ext J M J' M') : Keep J M J' M' := fun id o ho =>
  ⟨o, by rw [pre_get h.1 (List.getElem?_eq_some_iff.1 ho).1]; exact ho, .inr ⟨rfl, h.2 id (List.getElem?_eq_some_iff.1 ho).1⟩⟩

/-- Values of a type, brought into the machine: what stands for them, and what is known of them. -/
structure Bld {α : Type} (P : Program) (t : TypeId) (sz : Nat) (R : Hp → α → List Value → Prop) (ok : α → Prop) : Prop where
  cells : P.cellsOf t = sz
  pos : 0 < sz
  mono : ∀ {M M' : Hp} {z : α} {vs : List Value}, M <+: M' → R M z vs → R M' z vs
  bld : ∀ {H : Type} {enc : TypeId × Value → H} {w : World} {base : Nat} {held : Bool} {fuel : Nat} {cs : List Value} {x : DataW H × List MemPlace},
    DataW.trod enc P w base (fun _ => true) held fuel t cs = some x → (∀ a l c, .slice (some a) l c ∈ cs → Blk w) → ∀ (J : Inj) (M : Hp), RdRel J M w →
    ∃ (J' : Inj) (M' : Hp) (vs : List Value) (z : α), Ext J M J' M' ∧ RdRel J' M' w ∧ LRel J' M' vs cs ∧ (∀ v ∈ vs, v.oneCell' = true) ∧ R M' z vs ∧ ok z

theorem RdRel.nil (w : World) : RdRel (fun _ => none) [] w :=
  ⟨fun id o h => by simp at h, fun _ _ _ _ _ _ h _ => by simp at h, fun _ _ => rfl⟩

section
variable {P : Program}

theorem Bld.int {k : IntKind} {t : TypeId} (ht : P.underlying t = some (.int k)) (hc : P.cellsOf t = 1) : Bld P t 1 (fun _ n vs => vs = [.int k n]) (fun n => (Lit.int k n).wf = true) :=
  ⟨hc, by omega, fun _ h => h, fun h _ J M hr => by
    obtain ⟨n, rfl, _, hw⟩ := DataW.trod_int ht h
    exact ⟨J, M, _, n, .refl _ _, hr, .cons (.int k n) .nil, by simp [Value.oneCell'], rfl, hw⟩⟩

theorem Bld.bool {t : TypeId} (ht : P.underlying t = some .bool) (hc : P.cellsOf t = 1) : Bld P t 1 (fun _ b vs => vs = [.bool b]) (fun _ => True) :=
  ⟨hc, by omega, fun _ h => h, fun h _ J M hr => by
    obtain ⟨n, rfl, _⟩ := DataW.trod_bool ht h
    exact ⟨J, M, _, n, .refl _ _, hr, .cons (.bool n) .nil, by simp [Value.oneCell'], rfl, trivial⟩⟩

theorem Bld.string {t : TypeId} (ht : P.underlying t = some .string) (hc : P.cellsOf t = 1) : Bld P t 1 (fun _ s vs => vs = [.string s]) (fun s => s.size ≤ maxLen) :=
  ⟨hc, by omega, fun _ h => h, fun h _ J M hr => by
    obtain ⟨n, rfl, _, hw⟩ := DataW.trod_string ht h
    exact ⟨J, M, _, n, .refl _ _, hr, .cons (.str n) .nil, by simp [Value.oneCell'], rfl, hw⟩⟩

/-- A new row that is only read. -/
theorem RdRel.push {J : Inj} {M : Hp} {w : World} (h : RdRel J M w) {l : Loc} {ds : Array Value} {e : TypeId} {lo hi : Nat} {o : List Value} (hb : w.heap[l.b]? = some (.cells ds e (lo, hi))) (hs : ds.size = l.sz) (hl : l.sh + o.length ≤ l.sz)
    (ho : LRel J M o ((ds.toList.drop l.sh).take o.length)) (h1 : ∀ v ∈ o, v.oneCell' = true) :
    Ext J M (fun id => if id = M.length then some l else J id) (M ++ [o]) ∧ RdRel (fun id => if id = M.length then some l else J id) (M ++ [o]) w := by
  have hx : Ext J M (fun id => if id = M.length then some l else J id) (M ++ [o]) := ⟨List.prefix_append _ _, fun id hid => by show (if id = M.length then some l else J id) = J id; rw [if_neg (by omega)]⟩
  refine ⟨hx, fun id o2 ho2 => ?_, fun id id' l2 l' hne hB hl1 hl2 => ?_, fun id hid => ?_⟩
  · have hid := (List.getElem?_eq_some_iff.1 ho2).1
    rw [List.length_append, List.length_singleton] at hid
    by_cases he : id = M.length
    · subst he
      rw [List.getElem?_append_right (Nat.le_refl _), Nat.sub_self] at ho2
      cases ho2
      refine ⟨l, ds, e, lo, hi, by simp, hb, hs, hl, fun i v hv => ⟨h1 v (List.mem_of_getElem? hv), ?_⟩, fun hB => by rw [List.length_append, List.length_singleton] at hB; omega⟩
      obtain ⟨y, hy, hr⟩ := ho.get hv
      have hi2 := (List.getElem?_eq_some_iff.1 hv).1
      refine ⟨y, ?_, hr.keep hx.keep⟩
      rw [take_drop_get, if_pos hi2, Array.getElem?_toList] at hy
      exact hy
    · rw [List.getElem?_append_left (by omega)] at ho2
      obtain ⟨l2, ds2, e2, lo2, hi2, a1, a2, a3, a4, a5, _⟩ := h.row id o2 ho2
      refine ⟨l2, ds2, e2, lo2, hi2, by show (if id = M.length then some l else J id) = some l2; rw [if_neg he]; exact a1, a2, a3, a4, fun i v hv => ?_, fun hB => by rw [List.length_append, List.length_singleton] at hB; omega⟩
      obtain ⟨b1, d, b2, b3⟩ := a5 i v hv
      exact ⟨b1, d, b2, b3.keep hx.keep⟩
  · rw [List.length_append, List.length_singleton] at hB
    have hl1 : (if id = M.length then some _ else J id) = some l2 := hl1
    rw [if_neg (by omega), h.dom id (by omega)] at hl1
    cases hl1
  · rw [List.length_append, List.length_singleton] at hid
    show (if id = M.length then some l else J id) = none
    rw [if_neg (by omega)]
    exact h.dom id (by omega)

end
end Go.Proofs.YtglboiahgpfjdaaGreat.Ev

/- Lists and records that come in by a law's parameters. -/
namespace Go.Proofs.YtglboiahgpfjdaaGreat.Ev
set_option linter.all false
open Go Go.ChangeShapes Go.WideShapes Go.RowKit

theorem add_add (a : Addr) (m j : Nat) : (a.add m).add j = a.add (m + j) := by
  unfold Addr.add
  by_cases hm : m = 0
  · subst hm; simp
  · by_cases hj : j = 0
    · subst hj; simp [hm]
    · simp [hm, hj, Nat.add_assoc]

theorem cell_some {w : World} {a : Addr} {k : Nat} {v : Value} (h : w.cell? (a.add k) = some v) (hs : k = 0 → a.spot = none) :
    ∃ (ds : Array Value) (e : TypeId) (lo hi : Nat), w.heap[a.block]? = some (.cells ds e (lo, hi)) ∧ ds[a.off + k]? = some v := by
  have hb : (a.add k).block = a.block := by unfold Addr.add; split <;> rfl
  have ho : (a.add k).off = a.off + k := by
    unfold Addr.add
    split
    · rename_i hk; subst hk; rfl
    · rfl
  unfold World.cell? at h
  rw [hb, ho] at h
  split at h
  · rename_i c e r hc
    split at h
    · cases h
    · exact ⟨c, e, r.1, r.2, hc, h⟩
  · cases h

theorem cell_spot {w : World} {a : Addr} {v : Value} (h : w.cell? (a.add 0) = some v) : a.spot = none := by
  have : a.add 0 = a := by simp [Addr.add]
  rw [this] at h
  unfold World.cell? at h
  split at h
  · split at h
    · cases h
    · rename_i hs
      cases hsp : a.spot with
      | none => rfl
      | some x => rw [hsp] at hs; exact absurd rfl hs
  · cases h

section
variable {P : Program}

theorem Bld.slice {α : Type} {R : Hp → α → List Value → Prop} {ok : α → Prop} {t e : TypeId} {sz : Nat} (ht : P.underlying t = some (.slice e)) (hc : P.cellsOf t = 1) (he : Bld P e sz R ok) :
    Bld P t 1 (fun M l vs => ∃ v, vs = [v] ∧ Sl (R M) sz M v l) (fun l => l.length ≤ maxLen ∧ ∀ x ∈ l, ok x) := by
  refine ⟨hc, by omega, fun {M M' z vs} hp ⟨v, h1, h2⟩ => ⟨v, h1, (h2.pre hp).frame (fun a _ cs h => he.mono hp h) fun _ _ _ _ _ _ => rfl⟩, ?_⟩
  intro H enc w base held fuel cs x h hb J M hr
  rcases DataW.trod_slice ht h with ⟨rfl, _⟩ | ⟨a, len, cap, elems, rest, n, _, rfl, _, hbase, hlc, hm, hlen, hel, hre, _⟩
  · exact ⟨J, M, _, [], .refl _ _, hr, .cons .nsl .nil, by simp [Value.oneCell'], ⟨_, rfl, .inl ⟨rfl, rfl⟩⟩, by simp⟩
  · have hpos := he.pos
    have hesz := he.cells
    have hblk : Blk w := hb a len cap (by simp)
    have hread : ∀ i, i < cap → ∃ c, w.cells? base (a.add (i * sz)) sz = some c ∧ (i < len → ∃ y, DataW.trod enc P w base (fun _ => true) held n e c = some y) := fun i hi => by
      by_cases hil : i < len
      · have h1 := hel i hil
        rw [List.getElem?_eq_getElem (by omega), hesz] at h1
        obtain ⟨c, h2, h3⟩ := Option.bind_eq_some_iff.1 h1
        exact ⟨c, h2, fun _ => ⟨_, h3⟩⟩
      · obtain ⟨h1, h2⟩ := hre rfl
        have h3 := h2 (i - len) (by omega)
        rw [List.getElem?_eq_getElem (by omega), hesz, show len + (i - len) = i by omega] at h3
        obtain ⟨c, h4, h5⟩ := Option.bind_eq_some_iff.1 h3
        exact ⟨c, h4, fun h => absurd h hil⟩
    have key : ∀ m, m ≤ len → ∃ (J' : Inj) (M' : Hp) (vs rc : List Value) (z : List α), Ext J M J' M' ∧ RdRel J' M' w ∧ LRel J' M' vs rc ∧ (∀ v ∈ vs, v.oneCell' = true) ∧ vs.length = m * sz ∧
        (∀ k, k < m * sz → w.cell? (a.add k) = rc[k]?) ∧ z.length = m ∧ ∀ i x, z[i]? = some x → R M' x ((vs.drop (i * sz)).take sz) ∧ ok x := fun m => by
      induction m with
      | zero => exact fun _ => ⟨J, M, [], [], [], .refl _ _, hr, .nil, by simp, by simp, fun k hk => by omega, rfl, fun i x hx => by simp at hx⟩
      | succ m ih =>
        intro hml
        obtain ⟨J1, M1, vs1, rc1, z1, e1, r1, l1, o1, n1, c1, zl1, zr1⟩ := ih (by omega)
        obtain ⟨c, hc1, hc2⟩ := hread m (by omega)
        obtain ⟨y, hy⟩ := hc2 (by omega)
        obtain ⟨_, hcl, hcell⟩ := World.cells?_some hc1
        obtain ⟨J2, M2, vs2, z2, e2, r2, l2, o2, p2, k2⟩ := he.bld hy (fun _ _ _ _ => hblk) J1 M1 r1
        have hv2 : vs2.length = sz := by rw [l2.1, hcl]
        refine ⟨J2, M2, vs1 ++ vs2, rc1 ++ c, z1 ++ [z2], e1.trans e2, r2, (l1.keep e2.keep).append l2, fun v hv => ?_, by rw [List.length_append, n1, hv2, Nat.succ_mul], fun k hk => ?_, by simp [zl1], fun i x hx => ?_⟩
        · rcases List.mem_append.1 hv with h | h
          · exact o1 v h
          · exact o2 v h
        · have hrc : rc1.length = m * sz := by rw [← l1.1, n1]
          by_cases hkm : k < m * sz
          · rw [List.getElem?_append_left (by omega)]
            exact c1 k hkm
          · rw [Nat.succ_mul] at hk
            rw [List.getElem?_append_right (by omega), hrc, ← hcell (k - m * sz) (by omega), add_add, show m * sz + (k - m * sz) = k by omega]
        · by_cases hi : i < m
          · rw [List.getElem?_append_left (by omega)] at hx
            obtain ⟨q1, q2⟩ := zr1 i x hx
            refine ⟨?_, q2⟩
            have hle : (i + 1) * sz ≤ m * sz := Nat.mul_le_mul_right _ hi
            rw [Nat.succ_mul] at hle
            rw [List.drop_append_of_le_length (by omega), List.take_append_of_le_length (by rw [List.length_drop]; omega)]
            exact he.mono e2.1 q1
          · have hil := (List.getElem?_eq_some_iff.1 hx).1
            rw [List.length_append, List.length_singleton] at hil
            have him : i = m := by omega
            subst him
            rw [List.getElem?_append_right (by omega), zl1, Nat.sub_self] at hx
            cases hx
            refine ⟨?_, k2⟩
            rw [List.drop_append_of_le_length (by omega), List.drop_of_length_le (by omega), List.nil_append, List.take_of_length_le (by omega)]
            exact p2
    obtain ⟨J1, M1, vs, rc, z, e1, r1, l1, o1, n1, c1, zl, zr⟩ := key len (Nat.le_refl _)
    have fin : ∀ (l : Loc) (ds : Array Value) (e' : TypeId) (lo hi : Nat), w.heap[l.b]? = some (.cells ds e' (lo, hi)) → ds.size = l.sz → l.sh + vs.length ≤ l.sz → LRel J1 M1 vs ((ds.toList.drop l.sh).take vs.length) →
        ((len = 0 ∧ cap = 0) ∨ (a = ⟨l.b, l.sh + 0, none⟩ ∧ l.sh + 0 + cap * sz ≤ l.sz)) →
        ∃ (J' : Inj) (M' : Hp) (vs : List Value) (z : List α), Ext J M J' M' ∧ RdRel J' M' w ∧ LRel J' M' vs [.slice (some a) len cap] ∧ (∀ v ∈ vs, v.oneCell' = true) ∧ (∃ v, vs = [v] ∧ Sl (R M') sz M' v z) ∧ (z.length ≤ maxLen ∧ ∀ x ∈ z, ok x) := fun l ds e' lo hi h1 h2 h3 h4 h5 => by
      obtain ⟨x1, x2⟩ := r1.push h1 h2 h3 h4 o1
      refine ⟨_, _, [.slice (some ⟨M1.length, 0, some sz⟩) len (len * sz)], z, e1.trans x1, x2, .cons (.sl _ _ _ _ _ vs a cap (by simp) (by omega) hlc (Nat.mul_le_mul_right _ hlc) fun _ => ⟨l, by simp, h5⟩) .nil, by simp [Value.oneCell'], ⟨_, rfl, ?_⟩, by omega, fun y hy => ?_⟩
      · refine .inr ⟨M1.length, 0, len * sz, vs, by rw [zl], by simp, by omega, by rw [zl]; omega, by unfold maxLen at hm; omega, fun i y hy => ?_⟩
        rw [Nat.zero_add]
        exact he.mono x1.1 (zr i y hy).1
      · obtain ⟨i, hi⟩ := List.getElem?_of_mem hy
        exact (zr i y hi).2
    by_cases hcap : cap = 0
    · have hl0 : len = 0 := by omega
      obtain ⟨b, ds, e', lo, hi, hbk⟩ := hblk
      have hv0 : vs = [] := List.eq_nil_of_length_eq_zero (by rw [n1, hl0]; omega)
      refine fin ⟨b, 0, ds.size⟩ ds e' lo hi hbk rfl (by rw [hv0]; simp) ?_ (.inl ⟨hl0, hcap⟩)
      rw [hv0]
      exact ⟨by simp, fun i x y hx => by simp at hx⟩
    · obtain ⟨c0, hc0, _⟩ := hread 0 (by omega)
      obtain ⟨_, hcl0, hcell0⟩ := World.cells?_some hc0
      have q0 := hcell0 0 hpos
      rw [add_add, Nat.zero_mul, Nat.zero_add, List.getElem?_eq_getElem (by omega)] at q0
      have hspot := cell_spot q0
      obtain ⟨ds, e', lo, hi, hbk, _⟩ := cell_some q0 fun _ => hspot
      have hcells : ∀ k v, w.cell? (a.add k) = some v → ds[a.off + k]? = some v := fun k v hv => by
        obtain ⟨ds2, e2, lo2, hi2, hb2, hd2⟩ := cell_some hv fun _ => hspot
        rw [hbk] at hb2
        cases hb2
        exact hd2
      obtain ⟨c9, hc9, _⟩ := hread (cap - 1) (by omega)
      obtain ⟨_, hcl9, hcell9⟩ := World.cells?_some hc9
      have q9 := hcell9 (sz - 1) (by omega)
      rw [add_add, List.getElem?_eq_getElem (by omega)] at q9
      have hsz9 := (Array.getElem?_eq_some_iff.1 (hcells _ _ q9)).1
      have hmul : (cap - 1) * sz + sz = cap * sz := by
        rw [← Nat.succ_mul]
        congr 1
        omega
      have hlm : len * sz ≤ cap * sz := Nat.mul_le_mul_right _ hlc
      refine fin ⟨a.block, a.off, ds.size⟩ ds e' lo hi hbk rfl (by simp only; omega) ⟨?_, fun i x y hx hy => ?_⟩ (.inr ⟨?_, by simp only; omega⟩)
      · rw [List.length_take, List.length_drop, Array.length_toList]
        show vs.length = min vs.length (ds.size - a.off)
        omega
      · have hi2 := (List.getElem?_eq_some_iff.1 hx).1
        obtain ⟨y2, hy2, hr2⟩ := l1.get hx
        have := c1 i (by omega)
        rw [hy2] at this
        have h3 := hcells _ _ this
        rw [take_drop_get, if_pos hi2, Array.getElem?_toList, h3] at hy
        cases hy
        exact hr2
      · cases a
        simp only at hspot
        subst hspot
        rfl

/-- Fields in line, from an offset on. -/
structure SeqB {α : Type} (P : Program) (sz : Nat) (R : Hp → α → List Value → Prop) (ok : α → Prop) (fs : List (TypeId × Nat)) (off : Nat) : Prop where
  pos : 0 < sz
  mono : ∀ {M M' : Hp} {z : α} {vs : List Value}, M <+: M' → R M z vs → R M' z vs
  bld : ∀ {H : Type} {enc : TypeId × Value → H} {w : World} {base : Nat} {held : Bool} {fuel : Nat} {cs : List Value}, cs.length = off + sz →
    (∀ f, f ∈ fs → ∃ y, DataW.trod enc P w base (fun _ => true) held fuel f.1 ((cs.drop f.2).take (P.cellsOf f.1)) = some y) → (∀ a l c, .slice (some a) l c ∈ cs → Blk w) → ∀ (J : Inj) (M : Hp), RdRel J M w →
    ∃ (J' : Inj) (M' : Hp) (vs : List Value) (z : α), Ext J M J' M' ∧ RdRel J' M' w ∧ LRel J' M' vs (cs.drop off) ∧ (∀ v ∈ vs, v.oneCell' = true) ∧ R M' z vs ∧ ok z

theorem SeqB.one {α : Type} {R : Hp → α → List Value → Prop} {ok : α → Prop} {t : TypeId} {sz off : Nat} (h : Bld P t sz R ok) : SeqB P sz R ok [(t, off)] off :=
  ⟨h.pos, h.mono, fun {H enc w base held fuel cs} hl hf hb J M hr => by
    obtain ⟨y, hy⟩ := hf (t, off) (by simp)
    have e : (cs.drop off).take (P.cellsOf t) = cs.drop off := List.take_of_length_le (by rw [List.length_drop, h.cells]; omega)
    simp only [e] at hy
    exact h.bld hy (fun a l c hm => hb a l c (List.mem_of_mem_drop hm)) J M hr⟩

theorem SeqB.cons {α β : Type} {R1 : Hp → α → List Value → Prop} {R2 : Hp → β → List Value → Prop} {ok1 : α → Prop} {ok2 : β → Prop} {t : TypeId} {s1 s2 off off' : Nat} {fs : List (TypeId × Nat)} (h : Bld P t s1 R1 ok1) (ho : off' = off + s1) (hs : SeqB P s2 R2 ok2 fs off') :
    SeqB P (s1 + s2) (fun M (x : α × β) vs => ∃ u v, vs = u ++ v ∧ R1 M x.1 u ∧ R2 M x.2 v) (fun x => ok1 x.1 ∧ ok2 x.2) ((t, off) :: fs) off := by
  refine ⟨by have := h.pos; omega, fun {M M' z vs} hp ⟨u, v, e, a, b⟩ => ⟨u, v, e, h.mono hp a, hs.mono hp b⟩, ?_⟩
  intro H enc w base held fuel cs hl hf hb J M hr
  obtain ⟨y, hy⟩ := hf (t, off) (by simp)
  have hl' : cs.length = off + (s1 + s2) := hl
  obtain ⟨J1, M1, vs1, z1, e1, r1, l1, o1, p1, k1⟩ := h.bld hy (fun a l c hm => hb a l c (List.mem_of_mem_drop (List.mem_of_mem_take hm))) J M hr
  obtain ⟨J2, M2, vs2, z2, e2, r2, l2, o2, p2, k2⟩ := hs.bld (by rw [ho]; omega) (fun f hff => hf f (List.mem_cons_of_mem _ hff)) hb J1 M1 r1
  refine ⟨J2, M2, vs1 ++ vs2, (z1, z2), e1.trans e2, r2, ?_, fun v hv => ?_, ⟨vs1, vs2, rfl, h.mono e2.1 p1, p2⟩, k1, k2⟩
  · have := (l1.keep e2.keep).append l2
    rw [h.cells, ho, ← List.drop_drop, List.take_append_drop] at this
    exact this
  · rcases List.mem_append.1 hv with hm | hm
    · exact o1 v hm
    · exact o2 v hm

theorem Bld.struct {α : Type} {R : Hp → α → List Value → Prop} {ok : α → Prop} {t : TypeId} {sz : Nat} {fs : Array Field} (ht : P.underlying t = some (.struct fs)) (hc : P.cellsOf t = sz) (hs : SeqB P sz R ok (fs.toList.map fun f => (f.type, f.offset)) 0) : Bld P t sz R ok := by
  refine ⟨hc, hs.pos, hs.mono, fun {H enc w base held fuel cs x} h hb J M hr => ?_⟩
  obtain ⟨xs, n, _, _, hl, hxl, hx⟩ := DataW.trod_struct ht h
  have := hs.bld (enc := enc) (w := w) (base := base) (held := held) (fuel := n) (cs := cs) (by rw [hl, hc]; omega) (fun y hy => by
    obtain ⟨fl, hfl, rfl⟩ := List.mem_map.1 hy
    obtain ⟨i, hi⟩ := List.getElem?_of_mem hfl
    have hi' : fs[i]? = some fl := by rw [← hi]; simp
    have := hx i fl hi'
    have hlt : i < xs.length := by
      have := (List.getElem?_eq_some_iff.1 hi).1
      simp at this
      omega
    rw [List.getElem?_eq_getElem hlt] at this
    exact ⟨_, this⟩) hb J M hr
  simpa using this

theorem Bld.conv {α β : Type} {R : Hp → α → List Value → Prop} {R' : Hp → β → List Value → Prop} {ok : α → Prop} {ok' : β → Prop} {t : TypeId} {sz : Nat} (h : Bld P t sz R ok) (f : α → β) (hR : ∀ M z vs, R M z vs → R' M (f z) vs) (hm : ∀ {M M' : Hp} {z : β} {vs : List Value}, M <+: M' → R' M z vs → R' M' z vs) (hk : ∀ z, ok z → ok' (f z)) : Bld P t sz R' ok' :=
  ⟨h.cells, h.pos, hm, fun ht hb J M hr => by
    obtain ⟨J', M', vs, z, a1, a2, a3, a4, a5, a6⟩ := h.bld ht hb J M hr
    exact ⟨J', M', vs, f z, a1, a2, a3, a4, hR _ _ _ a5, hk _ a6⟩⟩

end
end Go.Proofs.YtglboiahgpfjdaaGreat.Ev

/- A law's parameters, one by one, and the whole of it. -/
namespace Go.Proofs.YtglboiahgpfjdaaGreat.Ev
set_option linter.all false
open Go Go.ChangeShapes Go.WideShapes Go.RowKit

structure ArgB {α : Type} (P : Program) (t : TypeId) (V : Hp → α → Value → Prop) (ok : α → Prop) : Prop where
  mono : ∀ {M M' : Hp} {z : α} {v : Value}, M <+: M' → V M z v → V M' z v
  arg : ∀ {H : Type} {enc : TypeId × Value → H} {w : World} {v : Value} {D : DataW H} {ps : List MemPlace} {base : Nat}, DataW.Trod enc P w 0 (fun _ => true) true t v D ps → Value.okWide P w .any base t v → ∀ (J : Inj) (M : Hp), RdRel J M w →
    ∃ (J' : Inj) (M' : Hp) (u : Value) (z : α), Ext J M J' M' ∧ RdRel J' M' w ∧ VRel J' M' u v ∧ V M' z u ∧ ok z

section
variable {P : Program}

theorem blk_of_shape {w : World} {r : Nat} {x : TypeId × Nat} (h : w.shape? r = some x) : Blk w := by
  unfold World.shape? at h
  split at h
  · rename_i c e q hc
    exact ⟨r, c, e, q.1, q.2, hc⟩
  · cases h

theorem cell_blk {w : World} {r : Reach} {base : Nat} {t : TypeId} {a : Addr} {l c : Nat} (h : Cell.okWide P w r base t (.slice (some a) l c)) : Blk w := by
  unfold Cell.okWide at h
  have h2 : Cell.ok P w r base t (.slice (some a) l c) := by
    revert h
    cases P.underlying t with
    | none => exact fun h => h
    | some d => cases d <;> exact fun h => h
  unfold Cell.ok at h2
  revert h2
  cases P.underlying t with
  | none => exact fun h => h.elim
  | some d => cases d <;> first | exact fun h => h.elim | exact fun h => by obtain ⟨_, _, _, _, row, cells, hs, _⟩ := h; exact blk_of_shape hs

theorem ArgB.one {α : Type} {R : Hp → α → List Value → Prop} {ok : α → Prop} {t : TypeId} (h : Bld P t 1 R ok) (hk : ∀ {w : World} {r : Reach} {base : Nat} {v : Value}, Value.okWide P w r base t v → v.cells = #[v] ∧ Cell.okWide P w r base t v) :
    ArgB P t (fun M z v => R M z [v]) ok :=
  ⟨h.mono, fun {H enc w v D ps base} hT hv J M hr => by
    obtain ⟨fuel, hf⟩ := hT
    obtain ⟨hc, hcell⟩ := hk hv
    rw [hc] at hf
    obtain ⟨J', M', vs, z, a1, a2, a3, a4, a5, a6⟩ := h.bld hf (fun a l c hm => by
      have h9 : Value.slice (some a) l c = v := by simpa using hm
      rw [← h9] at hcell
      exact cell_blk hcell) J M hr
    obtain ⟨u, rfl⟩ : ∃ u, vs = [u] := by
      have := a3.1
      cases vs with
      | nil => simp at this
      | cons y l => cases l with
        | nil => exact ⟨y, rfl⟩
        | cons z l => simp at this
    exact ⟨J', M', u, z, a1, a2, a3.2 0 u v rfl rfl, a5, a6⟩⟩

theorem ArgB.slice {α : Type} {R : Hp → α → List Value → Prop} {ok : α → Prop} {t e : TypeId} {sz : Nat} (ht : P.underlying t = some (.slice e)) (hc : P.cellsOf t = 1) (he : Bld P e sz R ok) :
    ArgB P t (fun M l v => Sl (R M) sz M v l) (fun l => l.length ≤ maxLen ∧ ∀ x ∈ l, ok x) := by
  have h := ArgB.one (Bld.slice ht hc he) (fun {w r base v} hv => by
    obtain ⟨a, len, cap, rfl⟩ := okWide_slice ht hv
    exact ⟨rfl, by unfold Value.okWide at hv; rw [ht] at hv; exact hv⟩)
  exact ⟨fun hp hs => by
    obtain ⟨v, e, h2⟩ := h.mono hp ⟨_, rfl, hs⟩
    cases e
    exact h2, fun hT hv J M hr => by
    obtain ⟨J', M', u, z, a1, a2, a3, ⟨v, e, h2⟩, a5⟩ := h.arg hT hv J M hr
    cases e
    exact ⟨J', M', u, z, a1, a2, a3, h2, a5⟩⟩

theorem ArgB.int {k : IntKind} {t : TypeId} (ht : P.underlying t = some (.int k)) (hc : P.cellsOf t = 1) : ArgB P t (fun _ n v => v = .int k n) (fun n => (Lit.int k n).wf = true) := by
  have h := ArgB.one (Bld.int ht hc) (fun {w r base v} hv => by
    obtain ⟨n, rfl⟩ := okWide_int ht hv
    exact ⟨rfl, by unfold Value.okWide at hv; rw [ht] at hv; exact hv⟩)
  exact ⟨fun _ h => h, fun hT hv J M hr => by
    obtain ⟨J', M', u, z, a1, a2, a3, a4, a5⟩ := h.arg hT hv J M hr
    exact ⟨J', M', u, z, a1, a2, a3, by simpa using a4, a5⟩⟩

theorem ArgB.bool {t : TypeId} (ht : P.underlying t = some .bool) (hc : P.cellsOf t = 1) : ArgB P t (fun _ b v => v = .bool b) (fun _ => True) := by
  have h := ArgB.one (Bld.bool ht hc) (fun {w r base v} hv => by
    obtain ⟨n, rfl⟩ := okWide_bool ht hv
    exact ⟨rfl, by unfold Value.okWide at hv; rw [ht] at hv; exact hv⟩)
  exact ⟨fun _ h => h, fun hT hv J M hr => by
    obtain ⟨J', M', u, z, a1, a2, a3, a4, a5⟩ := h.arg hT hv J M hr
    exact ⟨J', M', u, z, a1, a2, a3, by simpa using a4, a5⟩⟩

theorem ArgB.string {t : TypeId} (ht : P.underlying t = some .string) (hc : P.cellsOf t = 1) : ArgB P t (fun _ s v => v = .string s) (fun s => s.size ≤ maxLen) := by
  have h := ArgB.one (Bld.string ht hc) (fun {w r base v} hv => by
    obtain ⟨n, rfl⟩ := okWide_string ht hv
    exact ⟨rfl, by unfold Value.okWide at hv; rw [ht] at hv; exact hv⟩)
  exact ⟨fun _ h => h, fun hT hv J M hr => by
    obtain ⟨J', M', u, z, a1, a2, a3, a4, a5⟩ := h.arg hT hv J M hr
    exact ⟨J', M', u, z, a1, a2, a3, by simpa using a4, a5⟩⟩

theorem ArgB.struct {α : Type} {R : Hp → α → List Value → Prop} {ok : α → Prop} {t : TypeId} {sz : Nat} {fs : Array Field} (ht : P.underlying t = some (.struct fs)) (h : Bld P t sz R ok) :
    ArgB P t (fun M z v => ∃ vs, v = .agg vs ∧ R M z vs.toList) ok :=
  ⟨fun hp ⟨vs, e, hR⟩ => ⟨vs, e, h.mono hp hR⟩, fun {H enc w v D ps base} hT hv J M hr => by
    obtain ⟨fuel, hf⟩ := hT
    have hv2 := hv
    unfold Value.okWide at hv2
    rw [ht] at hv2
    obtain ⟨cs, rfl, hsz, ts, _, _, hcs⟩ := hv2
    obtain ⟨J', M', vs, z, a1, a2, a3, a4, a5, a6⟩ := h.bld hf (fun a l c hm => by
      obtain ⟨i, hi⟩ := List.getElem?_of_mem hm
      obtain ⟨u, _, hok⟩ := hcs i _ (by simpa [Value.cells] using hi)
      exact cell_blk hok) J M hr
    refine ⟨J', M', .agg vs.toArray, z, a1, a2, ?_, ⟨vs.toArray, rfl, a5⟩, a6⟩
    have hl := a3.1
    refine .agg _ _ (by simpa [Value.cells] using hl) (fun i x hx => a4 x (List.mem_of_getElem? (by simpa using hx))) fun i x y hx hy => a3.2 i x y (by simpa using hx) (by simpa [Value.cells] using hy)⟩

/-- The small machine's answer is Go's. -/
theorem law_run {E : Env} {hv : Nat → Nat → Bool} {J : Inj} {M : Hp} {w : World} {vs : List Value} {cs : Array Value} {f : Nat} (hmix : P.follows .mixedOrders = true) (hE : E.fns = fnsOf P hv) (hpu : PureSound P ∨ ∀ f d, hv f d = false) (hp : ∀ f, E.prim f = none) (hr : RdRel J M w) (hl : LRel J M vs cs.toList)
    (h : Fun E { wr := fun id => decide (M.length ≤ id), nr := false } f vs M fun r _ => r = .bool true) : Calls P f cs w fun e w' => e = .returned (.bool true) ∧ Below w.heap.size w w' := by
  obtain ⟨k, r, H', h1, rfl⟩ := h
  exact law_calls hmix hE hpu (fun f p h => by rw [hp] at h; cases h) (fun f p h => by rw [hp] at h; cases h) h1 hr hl

end
end Go.Proofs.YtglboiahgpfjdaaGreat.Ev

/- Growing a slice of one's own. -/
namespace Go.Proofs.YtglboiahgpfjdaaGreat.Ev
set_option linter.all false
open Go

section
variable {m : Md} {α : Type} {R : α → List Value → Prop} {esz : Nat} {H : Hp} {v : Value} {l : List α}

theorem Sl.app {N n bytes : Nat} {l2 : List α} {cs : List Value} (h : Sl R esz H v l) (ho : OwnS N v) (hN : N ≤ H.length) (hw : ∀ id, N ≤ id → m.wr id = true) (hnr : m.nr = true → cs.all scal = true) (hpos : 0 < l2.length) (hcs : cs.length = l2.length * esz)
    (hr : ∀ (i : Nat) a, l2[i]? = some a → R a ((cs.drop (i * esz)).take esz)) (hb : (l.length + l2.length) * bytes ≤ Ev.room) (hb2 : l.length + l2.length ≤ Ev.room) :
    ∃ v' H', (∀ (s : St) (x y : X), s.H = H → exv s.ρ x = some v → srcOf H esz (ex s.ρ y) = some (l2.length, cs) → appK m s esz bytes x y = some (.val v', { s with H := H' })) ∧ Sl R esz H' v' (l ++ l2) ∧ OwnS N v' ∧
      (∀ j, j < H.length → j ∉ idsOf v → H'[j]? = H[j]?) ∧ H.length ≤ H'.length ∧ (∀ j ∈ idsOf v', j ∈ idsOf v ∨ H.length ≤ j) ∧ ∀ H0 : Hp, H0.length ≤ N → H0 <+: H → H0 <+: H' := by
  have hb3 : l.length + l2.length ≤ 9223372036854775807 := by unfold Ev.room at hb2; omega
  rcases ho with rfl | ⟨id, e, ln, cap, rfl, hid⟩
  · have hl : l = [] := by
      rcases h with ⟨_, h⟩ | ⟨_, _, _, _, h, _⟩
      · exact h
      · cases h
    subst hl
    simp only [List.length_nil, Nat.zero_add] at hb hb2 hb3
    refine ⟨.slice (some ⟨H.length, 0, some esz⟩) l2.length (l2.length * esz), H ++ [cs], fun s x y hH hx hy => ?_, .inr ⟨H.length, 0, l2.length * esz, cs, by simp, by simp, by omega, by simp, by simpa using hb3, fun i a hi => ?_⟩,
      .inr ⟨_, _, _, _, rfl, hN⟩, fun j hj _ => by rw [List.getElem?_append_left hj], by simp, fun j hj => ?_, fun H0 _ hp => pre_push hp⟩
    · unfold appK
      rw [hx, hH, hy]
      simp only
      rw [if_neg (by omega), if_pos ⟨hb, hb2⟩]
    · rw [Nat.zero_add]
      exact hr i a (by simpa using hi)
    · simp [idsOf] at hj
      exact .inr (by omega)
  · rcases h with ⟨h, _⟩ | ⟨id', off, cap', o, h, hg, hoc, hlc, hroom, hrr⟩
    · cases h
    cases h
    have hidl := (List.getElem?_eq_some_iff.1 hg).1
    have hwid := hw id hid
    have hold : ∀ (q : List Value), (∀ k, k < l.length * esz → q[k]? = o[k]?) → ∀ (i : Nat) a, l[i]? = some a → R a ((q.drop (0 + i * esz)).take esz) := fun q hq i a hi => by
      have hil := (List.getElem?_eq_some_iff.1 hi).1
      have hm : (i + 1) * esz ≤ l.length * esz := Nat.mul_le_mul_right _ hil
      rw [Nat.succ_mul] at hm
      have : (q.drop (0 + i * esz)).take esz = (o.drop (0 + i * esz)).take esz := by
        refine List.ext_getElem? fun k => ?_
        rw [take_drop_get, take_drop_get]
        by_cases hk : k < esz
        · rw [if_pos hk, if_pos hk, hq _ (by omega)]
        · rw [if_neg hk, if_neg hk]
      rw [this]
      exact hrr i a hi
    have hnew : ∀ (q : List Value), (∀ k, k < cs.length → q[l.length * esz + k]? = cs[k]?) → ∀ (i : Nat) a, l2[i]? = some a → R a ((q.drop (0 + (l.length + i) * esz)).take esz) := fun q hq i a hi => by
      have hil := (List.getElem?_eq_some_iff.1 hi).1
      have hm : (i + 1) * esz ≤ l2.length * esz := Nat.mul_le_mul_right _ hil
      rw [Nat.succ_mul] at hm
      have : (q.drop (0 + (l.length + i) * esz)).take esz = (cs.drop (i * esz)).take esz := by
        refine List.ext_getElem? fun k => ?_
        rw [take_drop_get, take_drop_get]
        by_cases hk : k < esz
        · rw [if_pos hk, if_pos hk, Nat.zero_add, Nat.add_mul, Nat.add_assoc, hq _ (by omega)]
        · rw [if_neg hk, if_neg hk]
      rw [this]
      exact hr i a hi
    have both : ∀ (q : List Value), (∀ k, k < l.length * esz → q[k]? = o[k]?) → (∀ k, k < cs.length → q[l.length * esz + k]? = cs[k]?) → ∀ (i : Nat) a, (l ++ l2)[i]? = some a → R a ((q.drop (0 + i * esz)).take esz) := fun q h1 h2 i a hi => by
      by_cases hil : i < l.length
      · rw [List.getElem?_append_left hil] at hi
        exact hold q h1 i a hi
      · rw [List.getElem?_append_right (by omega)] at hi
        have := hnew q h2 _ a hi
        rw [show l.length + (i - l.length) = i by omega] at this
        exact this
    by_cases hfit : (l.length + l2.length) * esz ≤ cap
    · have hfit' : l.length * esz + cs.length ≤ cap := by rw [hcs, ← Nat.add_mul]; exact hfit
      refine ⟨.slice (some ⟨id, 0, some esz⟩) (l.length + l2.length) cap, H.set id (spl o (0 + l.length * esz) cs), fun s x y hH hx hy => ?_, .inr ⟨id, 0, cap, _, by rw [List.length_append], by rw [List.getElem?_set_self hidl], by rw [spl_length]; exact hoc, by rw [List.length_append]; exact hfit, by rw [List.length_append]; exact hb3,
        both _ (fun k hk => ?_) (fun k hk => ?_)⟩, .inr ⟨_, _, _, _, rfl, hid⟩, fun j hj hne => ?_, by simp, fun j hj => .inl hj, fun H0 h0 hp => pre_set hp (by omega)⟩
      · unfold appK
        rw [hx, hH, hy]
        simp only
        rw [if_neg (by omega), hg]
        simp only
        rw [if_pos ⟨trivial, hoc, hwid, hnr⟩, if_pos hfit]
      · rw [spl_get, if_neg (by omega)]
      · rw [spl_get, if_pos (by omega), if_pos (by omega)]
        congr 1
        omega
      · rw [List.getElem?_set_ne]
        simp [idsOf] at hne
        omega
    · have htl : (o.take (l.length * esz)).length = l.length * esz := by rw [List.length_take]; omega
      refine ⟨.slice (some ⟨id, 0, some esz⟩) (l.length + l2.length) ((l.length + l2.length) * esz), H.set id (o.take (l.length * esz) ++ cs), fun s x y hH hx hy => ?_, .inr ⟨id, 0, _, _, by rw [List.length_append], by rw [List.getElem?_set_self hidl], by rw [List.length_append, htl, hcs, ← Nat.add_mul, Nat.zero_add], by rw [List.length_append]; exact Nat.le_refl _, by rw [List.length_append]; exact hb3,
        both _ (fun k hk => ?_) (fun k hk => ?_)⟩, .inr ⟨_, _, _, _, rfl, hid⟩, fun j hj hne => ?_, by simp, fun j hj => .inl hj, fun H0 h0 hp => pre_set hp (by omega)⟩
      · unfold appK
        rw [hx, hH, hy]
        simp only
        rw [if_neg (by omega), hg]
        simp only
        rw [if_pos ⟨trivial, hoc, hwid, hnr⟩, if_neg hfit, if_pos ⟨trivial, by omega, hb, hb2⟩]
      · rw [List.getElem?_append_left (by omega), List.getElem?_take, if_pos hk]
      · rw [List.getElem?_append_right (by omega), htl, show l.length * esz + k - l.length * esz = k by omega]
      · rw [List.getElem?_set_ne]
        simp [idsOf] at hne
        omega

theorem Sl.src (h : Sl R esz H v l) : ∃ cs, srcOf H esz (.val v) = some (l.length, cs) ∧ cs.length = l.length * esz ∧ ∀ (i : Nat) a, l[i]? = some a → R a ((cs.drop (i * esz)).take esz) := by
  rcases h with ⟨rfl, rfl⟩ | ⟨id, off, cap, o, rfl, hg, hoc, hlc, hroom, hrr⟩
  · exact ⟨[], rfl, by simp, fun i a hi => by simp at hi⟩
  · refine ⟨(o.drop off).take (l.length * esz), ?_, by rw [List.length_take, List.length_drop]; omega, fun i a hi => ?_⟩
    · simp only [srcOf, rowOf, hg]
      rw [if_pos hoc]
      simp only
      rw [if_pos ⟨trivial, by omega⟩]
    · have hil := (List.getElem?_eq_some_iff.1 hi).1
      have hm : (i + 1) * esz ≤ l.length * esz := Nat.mul_le_mul_right _ hil
      rw [Nat.succ_mul] at hm
      have : (((o.drop off).take (l.length * esz)).drop (i * esz)).take esz = (o.drop (off + i * esz)).take esz := by
        refine List.ext_getElem? fun k => ?_
        rw [take_drop_get ((o.drop off).take (l.length * esz)) (i * esz) esz k, take_drop_get o (off + i * esz) esz k]
        by_cases hk : k < esz
        · rw [if_pos hk, if_pos hk, take_drop_get, if_pos (by omega), Nat.add_assoc]
        · rw [if_neg hk, if_neg hk]
      rw [this]
      exact hrr i a hi

theorem Sl.copy {bytes : Nat} (h : Sl R esz H v l) (hb : l.length * bytes ≤ Ev.room) (hb2 : l.length ≤ Ev.room) :
    ∃ v' H', (∀ (s : St) (x y : X), s.H = H → exv s.ρ x = some (.slice none 0 0) → ex s.ρ y = .val v → appK m s esz bytes x y = some (.val v', { s with H := H' })) ∧ H <+: H' ∧ Sl R esz H' v' l ∧ OwnS H.length v' := by
  obtain ⟨cs, h1, h2, h3⟩ := h.src
  by_cases h0 : l.length = 0
  · have hl : l = [] := List.eq_nil_of_length_eq_zero h0
    subst hl
    refine ⟨.slice none 0 0, H, fun s x y hH hx hy => ?_, List.prefix_refl _, .inl ⟨rfl, rfl⟩, .inl rfl⟩
    subst hH
    unfold appK
    rw [hx, hy, h1]
    rfl
  · refine ⟨.slice (some ⟨H.length, 0, some esz⟩) l.length (l.length * esz), H ++ [cs], fun s x y hH hx hy => ?_, List.prefix_append _ _, .inr ⟨H.length, 0, l.length * esz, cs, rfl, by simp, by omega, Nat.le_refl _, by unfold Ev.room at hb2; omega, fun i a hi => ?_⟩, .inr ⟨_, _, _, _, rfl, Nat.le_refl _⟩⟩
    · unfold appK
      rw [hx, hH, hy, h1]
      simp only
      rw [if_neg h0, if_pos ⟨hb, hb2⟩]
    · rw [Nat.zero_add]
      exact h3 i a hi

end
end Go.Proofs.YtglboiahgpfjdaaGreat.Ev

/- slices.Sort of whole numbers, by its contract off the kit's shelf. -/
namespace Go.Proofs.YtglboiahgpfjdaaGreat.Ev
set_option linter.all false
open Go

end Go.Proofs.YtglboiahgpfjdaaGreat.Ev

/- Functions that are told by themselves: the calls, and the law's row. -/
namespace Go.Proofs.YtglboiahgpfjdaaGreat.Ev
set_option linter.all false
open Go RowKit

theorem Fun.prim {E : Env} {m : Md} {f : Nat} {vs : List Value} {H H' : Hp} {r : Value} {p : Md → List Value → Hp → Option (Value × Hp)} {Q : Value → Hp → Prop} (hp : E.prim f = some p) (h : p m vs H = some (r, H')) (hq : Q r H') : Fun E m f vs H Q :=
  ⟨1, r, H', by rw [evF, hp]; exact h, hq⟩

end Go.Proofs.YtglboiahgpfjdaaGreat.Ev

/- Numbers that rise: plain. -/
namespace Go.Proofs.YtglboiahgpfjdaaGreat.Ev
set_option linter.all false
open Go

end Go.Proofs.YtglboiahgpfjdaaGreat.Ev

/- The rest of a slice; what lies behind a place, cleared. -/
namespace Go.Proofs.YtglboiahgpfjdaaGreat.Ev
set_option linter.all false
open Go

section
variable {m : Md} {α : Type} {R : α → List Value → Prop} {esz : Nat} {H : Hp} {v : Value} {l : List α}

theorem Sl.drop (h : Sl R esz H v l) {i : Nat} (hi : i ≤ l.length) : ∃ v', (∀ (s : St) (x y : X), exv s.ρ x = some v → exv s.ρ y = some (.int .i64 i) → slcK s esz x (some y) none = some (.val v', s)) ∧
    (∀ j ∈ idsOf v', j ∈ idsOf v) ∧ ∀ (H' : Hp) (l' : List α), l'.length = l.length → Sl R esz H' v l' → Sl R esz H' v' (l'.drop i) := by
  rcases h with ⟨rfl, rfl⟩ | ⟨id, off, cap, o, rfl, ho, hc, hn, hrm, hr⟩
  · simp at hi
    subst hi
    refine ⟨.slice none 0 0, fun s x y hx hy => ?_, fun j hj => hj, fun H' l' hl h => by rw [List.eq_nil_of_length_eq_zero hl] at h ⊢; exact h⟩
    simp only [slcK, bnd, hx, hy]
    rfl
  · have hm : i * esz ≤ l.length * esz := Nat.mul_le_mul_right _ hi
    refine ⟨.slice (some ⟨id, off + i * esz, some esz⟩) (l.length - i) (cap - i * esz), fun s x y hx hy => ?_, fun j hj => hj, fun H' l' hl h => ?_⟩
    · simp only [slcK, bnd, hx, hy]
      rw [if_pos ⟨trivial, by omega, by omega, .inl (by omega), by simp; omega⟩]
      simp [St.val]
    · rcases h with ⟨h, _⟩ | ⟨id', off', cap', o', h, ho', hc', hn', hrm', hr'⟩
      · cases h
      · rw [← hl] at h
        cases h
        have hm' : i * esz ≤ l'.length * esz := Nat.mul_le_mul_right _ (by omega)
        refine .inr ⟨id, off + i * esz, cap - i * esz, o', by rw [List.length_drop, hl], ho', by omega, ?_, by rw [List.length_drop]; omega, fun j a hj => ?_⟩
        · rw [List.length_drop, Nat.sub_mul]; omega
        · rw [List.getElem?_drop] at hj
          have := hr' _ a hj
          rw [show off + i * esz + j * esz = off + (i + j) * esz by rw [Nat.add_mul]; omega]
          exact this

theorem Sl.cut (h : Sl R esz H v l) {i : Nat} (hi : i ≤ l.length) {zero : List Value} (hz : zero.length = esz) (hzs : zero.all scal = true) (hw : ∀ id ∈ idsOf v, m.wr id = true) : ∃ v3 v2 H', (∀ (s : St) (x y : X), exv s.ρ x = some v → exv s.ρ y = some (.int .i64 i) → slcK s esz x (some y) none = some (.val v3, s)) ∧
    (∀ (s : St) (x : X), s.H = H → exv s.ρ x = some v3 → clrK m s esz zero x = some (.val (.tuple #[]), { s with H := H' })) ∧
    (∀ (s : St) (x y : X), exv s.ρ x = some v → exv s.ρ y = some (.int .i64 i) → slcK s esz x none (some y) = some (.val v2, s)) ∧ Sl R esz H' v2 (l.take i) ∧ (∀ N, OwnS N v → OwnS N v2) ∧ (∀ j, j ∉ idsOf v → H'[j]? = H[j]?) ∧ H'.length = H.length ∧ ∀ j ∈ idsOf v2, j ∈ idsOf v := by
  rcases h with ⟨rfl, rfl⟩ | ⟨id, off, cap, o, rfl, ho, hc, hn, hrm, hr⟩
  · simp at hi
    subst hi
    refine ⟨.slice none 0 0, .slice none 0 0, H, fun s x y hx hy => ?_, fun s x hH hx => ?_, fun s x y hx hy => ?_, .inl ⟨rfl, by simp⟩, fun N h => h, fun _ _ => rfl, rfl, fun j hj => hj⟩
    · simp only [slcK, bnd, hx, hy]
      rfl
    · subst hH
      simp only [clrK, hx]
      rfl
    · simp only [slcK, bnd, hx, hy]
      rfl
  · have hm : i * esz ≤ l.length * esz := Nat.mul_le_mul_right _ hi
    have hidl := (List.getElem?_eq_some_iff.1 ho).1
    refine ⟨.slice (some ⟨id, off + i * esz, some esz⟩) (l.length - i) (cap - i * esz), .slice (some ⟨id, off, some esz⟩) i cap, H.set id (spl o (off + i * esz) (zeros (l.length - i) zero)), fun s x y hx hy => ?_, fun s x hH hx => ?_, fun s x y hx hy => ?_, .inr ⟨id, off, cap, _, by rw [List.length_take, Nat.min_eq_left hi], List.getElem?_set_self hidl, by rw [spl_length]; exact hc, by rw [List.length_take, Nat.min_eq_left hi]; omega, by rw [List.length_take]; omega, fun j a hj => ?_⟩, fun N h => ?_, fun j hj => ?_, by simp, fun j hj => hj⟩
    · simp only [slcK, bnd, hx, hy]
      rw [if_pos ⟨trivial, by omega, by omega, .inl (by omega), by simp; omega⟩]
      simp [St.val]
    · subst hH
      simp only [clrK, hx, ho]
      rw [if_pos ⟨trivial, by omega, hw id (by simp [idsOf]), hzs, by rw [Nat.sub_mul]; omega⟩]
    · simp only [slcK, bnd, hx, hy]
      rw [if_pos ⟨trivial, by omega, by omega, .inl (by omega), by simp⟩]
      simp [St.val]
    · rw [List.getElem?_take] at hj
      split at hj
      · rename_i hji
        have hm2 : (j + 1) * esz ≤ i * esz := Nat.mul_le_mul_right _ hji
        rw [Nat.succ_mul] at hm2
        rw [spl_other (.inl (by omega))]
        exact hr j a hj
      · cases hj
    · rcases h with h | ⟨id', e, ln, cp, h, hN⟩
      · cases h
      · cases h
        exact .inr ⟨_, _, _, _, rfl, hN⟩
    · rw [List.getElem?_set_ne]
      simp [idsOf] at hj
      omega
end
end Go.Proofs.YtglboiahgpfjdaaGreat.Ev

/- Ways that come together again; calls that may write what they are handed. -/
namespace Go.Proofs.YtglboiahgpfjdaaGreat.Ev
set_option linter.all false
open Go

section
variable {E : Env} {m : Md} {s : St} {Q : Ex → St → Prop} {ts : List Tk}

end
end Go.Proofs.YtglboiahgpfjdaaGreat.Ev

/- Bytes and the numbers that are written in them: plain. -/
namespace Go.Proofs.YtglboiahgpfjdaaGreat.Ev
set_option linter.all false
open Go

/-- A text of bytes that are told as numbers. -/
def strOf (l : List Nat) : ByteArray := ⟨(l.map UInt8.ofNat).toArray⟩
theorem strOf_size (l : List Nat) : (strOf l).size = l.length := by simp [strOf, ByteArray.size]
theorem strOf_get {l : List Nat} {i : Nat} : (strOf l)[i]? = (l[i]?).map UInt8.ofNat := by
  show (strOf l).data[i]? = _ 
  simp [strOf]

def varL (n : Nat) : List Nat := if n < 128 then [n] else (n % 128 + 128) :: varL (n / 128)
termination_by n

theorem varL_lt {n : Nat} (h : n < 128) : varL n = [n] := by rw [varL, if_pos h]
theorem varL_ge {n : Nat} (h : ¬ n < 128) : varL n = (n % 128 + 128) :: varL (n / 128) := by rw [varL, if_neg h]

def varB (n : Int) : ByteArray := if 0 ≤ n ∧ n ≤ 562949953421311 then strOf (varL n.toNat) else ByteArray.empty

theorem varL_pos : ∀ n : Nat, 0 < (varL n).length := fun n => by
  rw [varL]; split <;> simp

/-- So long at most. -/
theorem varL_len : ∀ (k n : Nat), n < 128 ^ (k + 1) → (varL n).length ≤ k + 1
  | 0, n, h => by rw [varL_lt (by simpa using h)]; simp
  | k + 1, n, h => by
    by_cases h1 : n < 128
    · rw [varL_lt h1]; simp
    · rw [varL_ge h1]
      have := varL_len k (n / 128) (by rw [Nat.div_lt_iff_lt_mul (by decide)]; rw [Nat.pow_succ] at h; exact h)
      simp; omega

/-- All but the last have their highest bit; the last hasn't. -/
theorem varL_bits : ∀ (n : Nat) (i b : Nat), (varL n)[i]? = some b → b < 256 ∧ (i + 1 < (varL n).length → 128 ≤ b) ∧ (i + 1 = (varL n).length → b < 128) := fun n => by
  induction n using Nat.strongRecOn with
  | _ n ih =>
    intro i b hb
    by_cases h : n < 128
    · rw [varL_lt h] at hb ⊢
      cases i with
      | zero => simp at hb; subst hb; exact ⟨by omega, by simp, fun _ => h⟩
      | succ i => simp at hb
    · rw [varL_ge h] at hb ⊢
      cases i with
      | zero =>
        simp at hb
        subst hb
        refine ⟨by omega, fun _ => by omega, fun h2 => ?_⟩
        have := varL_pos (n / 128)
        simp only [List.length_cons] at h2
        omega
      | succ i =>
        rw [List.getElem?_cons_succ] at hb
        have := ih (n / 128) (by omega) i b hb
        refine ⟨this.1, fun h2 => this.2.1 (by simp at h2; omega), fun h2 => this.2.2 (by simp at h2; omega)⟩

/-- What so many bytes say. -/
def valB (s : ByteArray) : Nat → Nat
  | 0 => 0
  | k + 1 => valB s k + (match s[k]? with | some b => b.toNat % 128 | none => 0) * 128 ^ k

theorem valB_lt (s : ByteArray) : ∀ k, valB s k < 128 ^ k
  | 0 => by simp [valB]
  | k + 1 => by
    have := valB_lt s k
    rw [valB, Nat.pow_succ]
    generalize hd : (match s[k]? with | some b => b.toNat % 128 | none => 0) = d
    have h2 : d ≤ 127 := by
      subst hd
      split
      · exact Nat.le_of_lt_succ (Nat.mod_lt _ (by decide))
      · exact Nat.zero_le _
    have h3 := Nat.mul_le_mul_right (128 ^ k) h2
    generalize d * 128 ^ k = q at h3
    omega

/-- Is that the number's text? -/
def isV (s : ByteArray) (k : Nat) : Prop := varB (valB s k) = s.extract 0 k

theorem extract_get {s : ByteArray} {k i : Nat} (hk : k ≤ s.size) (hi : i < k) : (s.extract 0 k)[i]? = s[i]? := by
  show (s.extract 0 k).data[i]? = s.data[i]?
  rw [ByteArray.data_extract, Array.getElem?_extract]
  have : s.data.size = s.size := rfl
  simp
  omega

theorem isV_bits {s : ByteArray} {k : Nat} (h0 : 0 < k) (hk : k ≤ s.size) (h : isV s k) : (∀ i b, i + 1 < k → s[i]? = some b → 128 ≤ b.toNat) ∧ (∀ b, s[k - 1]? = some b → b.toNat < 128) := by
  unfold isV varB at h
  have hsz : (s.extract 0 k).size = k := by rw [ByteArray.size_extract]; omega
  split at h
  · have hlen : (varL (Int.toNat (valB s k : Int))).length = k := by rw [← strOf_size, h, hsz]
    have get : ∀ i b, i < k → s[i]? = some b → ∃ c, (varL (Int.toNat (valB s k : Int)))[i]? = some c ∧ b.toNat = c := fun i b hi hb => by
      rw [← extract_get hk hi, ← h, strOf_get] at hb
      cases hc : (varL (Int.toNat (valB s k : Int)))[i]? with
      | none => rw [hc] at hb; cases hb
      | some c =>
        rw [hc] at hb
        simp at hb
        subst hb
        have := (varL_bits _ i c hc).1
        exact ⟨c, rfl, by simp; omega⟩
    refine ⟨fun i b hi hb => ?_, fun b hb => ?_⟩
    · obtain ⟨c, hc, e⟩ := get i b (by omega) hb
      rw [e]
      exact (varL_bits _ i c hc).2.1 (by omega)
    · obtain ⟨c, hc, e⟩ := get (k - 1) b (by omega) hb
      rw [e]
      exact (varL_bits _ (k - 1) c hc).2.2 (by omega)
  · exfalso
    have : (s.extract 0 k).size = 0 := by rw [← h]; rfl
    omega

/-- The number that a text begins with, and how many bytes it has; none without one. -/
def readV (s : ByteArray) (n k : Nat) : Prop := 1 ≤ k ∧ k ≤ 7 ∧ k ≤ s.size ∧ n = valB s k ∧ isV s k
theorem readV.unique {s : ByteArray} {n k n' k' : Nat} (h : readV s n k) (h' : readV s n' k') : n = n' ∧ k = k' := by
  obtain ⟨a1, a2, a3, a4, a5⟩ := h
  obtain ⟨b1, b2, b3, b4, b5⟩ := h'
  have hk : k = k' := by
    rcases Nat.lt_trichotomy k k' with e | e | e
    · have h1 := (isV_bits a1 a3 a5).2
      have h2 := (isV_bits b1 b3 b5).1 (k - 1)
      obtain ⟨b, hb⟩ : ∃ b, s[k - 1]? = some b := ⟨_, getElem?_pos s (k - 1) (by show k - 1 < s.size; omega)⟩
      have := h1 b hb
      have := h2 b (by omega) hb
      omega
    · exact e
    · have h1 := (isV_bits b1 b3 b5).2
      have h2 := (isV_bits a1 a3 a5).1 (k' - 1)
      obtain ⟨b, hb⟩ : ∃ b, s[k' - 1]? = some b := ⟨_, getElem?_pos s (k' - 1) (by show k' - 1 < s.size; omega)⟩
      have := h1 b hb
      have := h2 b (by omega) hb
      omega
  subst hk
  exact ⟨a4.trans b4.symm, rfl⟩

open Classical in
/-- .. as numbers: 0, 0 without one. -/
noncomputable def rdV (s : ByteArray) : Nat × Nat := if h : ∃ p : Nat × Nat, readV s p.1 p.2 then Classical.choose h else (0, 0)
theorem rdV_eq {s : ByteArray} {n k : Nat} (h : readV s n k) : rdV s = (n, k) := by
  unfold rdV
  rw [dif_pos ⟨(n, k), h⟩]
  have := Classical.choose_spec (⟨(n, k), h⟩ : ∃ p : Nat × Nat, readV s p.1 p.2)
  have := this.unique h
  exact Prod.ext this.1 this.2
theorem rdV_none {s : ByteArray} (h : ∀ n k, ¬ readV s n k) : rdV s = (0, 0) := by
  unfold rdV
  rw [dif_neg (fun ⟨p, hp⟩ => h _ _ hp)]
end Go.Proofs.YtglboiahgpfjdaaGreat.Ev

/- Terms: plain. -/
namespace Go.Proofs.YtglboiahgpfjdaaGreat.Ev
set_option linter.all false
open Go

/-- So many times on. -/
def itr (f : Nat → Option Nat) : Nat → Nat → Option Nat
  | 0, e => some e
  | i + 1, e => match f e with
    | some e' => itr f i e'
    | none => none

theorem itr_succ (f : Nat → Option Nat) : ∀ (i e : Nat), itr f (i + 1) e = match itr f i e with | some e' => f e' | none => none
  | 0, e => by simp only [itr]; cases f e <;> rfl
  | i + 1, e => by
    rw [itr]
    cases h : f e with
    | none => simp only [itr, h]
    | some e' => simp only [itr, h]; exact itr_succ f i e'

/-- The text from a place on. -/
def rest (s : ByteArray) (at_ : Nat) : ByteArray := s.extract at_ s.size
theorem rest_size (s : ByteArray) (a : Nat) : (rest s a).size = s.size - a := by simp [rest]

/-- The place behind the term at a place. -/
noncomputable def tmStep (s : ByteArray) (f : Nat → Option Nat) (a : Nat) : Option Nat :=
  match s[a]? with
  | none => none
  | some c =>
    if (rdV (rest s (a + 1))).2 = 0 then none
    else if c = 97 then (if (rdV (rest s (a + 1))).1 ≤ 40 ∧ a + 1 + (rdV (rest s (a + 1))).2 + (rdV (rest s (a + 1))).1 ≤ s.size then some (a + 1 + (rdV (rest s (a + 1))).2 + (rdV (rest s (a + 1))).1) else none)
    else if c = 107 then (if 1 ≤ (rdV (rest s (a + 1))).1 ∧ (rdV (rest s (a + 1))).1 ≤ 1000000 then some (a + 1 + (rdV (rest s (a + 1))).2) else none)
    else if c = 108 then (if (rdV (rest s (a + 1))).1 ≤ 12 then itr f (rdV (rest s (a + 1))).1 (a + 1 + (rdV (rest s (a + 1))).2) else none)
    else if c = 115 then (if 1 ≤ (rdV (rest s (a + 1))).1 ∧ (rdV (rest s (a + 1))).1 ≤ 1000000 then f (a + 1 + (rdV (rest s (a + 1))).2) else none)
    else none
noncomputable def tmE (s : ByteArray) : Nat → Nat → Option Nat
  | 0 => fun _ => none
  | d + 1 => tmStep s (tmE s d)

theorem rdV_cases (s : ByteArray) : (rdV s = (0, 0)) ∨ ∃ n k, rdV s = (n, k) ∧ readV s n k := by
  by_cases h : ∃ p : Nat × Nat, readV s p.1 p.2
  · obtain ⟨⟨n, k⟩, h⟩ := h
    exact .inr ⟨n, k, rdV_eq h, h⟩
  · exact .inl (rdV_none fun n k h2 => h ⟨(n, k), h2⟩)

theorem readV.max {s : ByteArray} {n k : Nat} (h : readV s n k) : n ≤ 562949953421311 := by
  obtain ⟨h1, h2, h3, h4, h5⟩ := h
  have := valB_lt s k
  have h6 : 128 ^ k ≤ 128 ^ 7 := Nat.pow_le_pow_right (by decide) h2
  have h7 : (128 : Nat) ^ 7 = 562949953421312 := by decide
  omega

/-- The number read and its size are small; it lies in the text. -/
theorem rdV_le (s : ByteArray) : (rdV s).1 ≤ 562949953421311 ∧ (rdV s).2 ≤ 7 ∧ (rdV s).2 ≤ s.size := by
  rcases rdV_cases s with h | ⟨n, k, h, hr⟩
  · rw [h]; simp
  · rw [h]
    exact ⟨hr.max, hr.2.1, hr.2.2.1⟩

theorem itr_le {s : ByteArray} {f : Nat → Option Nat} (hf : ∀ a e, f a = some e → a < e ∧ e ≤ s.size) : ∀ {i a e : Nat}, a ≤ s.size → itr f i a = some e → a ≤ e ∧ e ≤ s.size
  | 0, a, e, ha, h => by cases h; exact ⟨Nat.le_refl _, ha⟩
  | i + 1, a, e, ha, h => by
    rw [itr] at h
    cases hfa : f a with
    | none => rw [hfa] at h; cases h
    | some e' =>
      rw [hfa] at h
      have h1 := hf a e' hfa
      have h2 := itr_le hf h1.2 h
      exact ⟨by omega, h2.2⟩

theorem tmE_le {s : ByteArray} : ∀ {d a e : Nat}, tmE s d a = some e → a < e ∧ e ≤ s.size
  | 0, a, e, h => by cases h
  | d + 1, a, e, h => by
    have hf : ∀ a e, tmE s d a = some e → a < e ∧ e ≤ s.size := fun a e h => tmE_le h
    rw [tmE, tmStep] at h
    cases hc : s[a]? with
    | none => rw [hc] at h; cases h
    | some c =>
      rw [hc] at h
      have hal : a < s.size := by
        rcases Nat.lt_or_ge a s.size with h2 | h2
        · exact h2
        · rw [getElem?_neg s a (by show ¬ a < s.size; omega)] at hc; cases hc
      have hr := rdV_le (rest s (a + 1))
      rw [rest_size] at hr
      simp only at h
      split at h
      · cases h
      · split at h
        · split at h
          · cases h; omega
          · cases h
        · split at h
          · split at h
            · cases h; omega
            · cases h
          · split at h
            · split at h
              · have := itr_le hf (by omega) h
                omega
              · cases h
            · split at h
              · split at h
                · have := hf _ _ h
                  omega
                · cases h
              · cases h

/-- Is it a term? -/
def TOk (s : ByteArray) : Prop := 1 ≤ s.size ∧ s.size ≤ 900 ∧ tmE s 8 0 = some s.size
open Classical in
noncomputable def tOk (s : ByteArray) : Bool := decide (TOk s)
theorem tOk_t {s : ByteArray} : tOk s = true ↔ TOk s := by
  classical
  unfold tOk; simp
end Go.Proofs.YtglboiahgpfjdaaGreat.Ev

/- Rows of bytes, and the texts made of them. -/
namespace Go.Proofs.YtglboiahgpfjdaaGreat.Ev
set_option linter.all false
open Go

def eN (n : Nat) : List Value := [.int .u8 (n : Int)]
abbrev SlN (H : Hp) (v : Value) (l : List Nat) : Prop := Sl (En eN) 1 H v l

theorem Sl.oneN {m : Md} {N : Nat} {H : Hp} {v : Value} {l : List Nat} (a : Nat) (h : SlN H v l) (ho : OwnS N v) (hN : N ≤ H.length) (hw : ∀ id, N ≤ id → m.wr id = true) (hb : l.length < 1048576) :
    ∃ v' H', (∀ (s : St) (x y : X), s.H = H → exv s.ρ x = some v → ex s.ρ y = .vs 1 [.int .u8 (a : Int)] → appK m s 1 1 x y = some (.val v', { s with H := H' })) ∧ SlN H' v' (l ++ [a]) ∧ OwnS N v' ∧
      (∀ j, j < H.length → j ∉ idsOf v → H'[j]? = H[j]?) ∧ H.length ≤ H'.length ∧ (∀ j ∈ idsOf v', j ∈ idsOf v ∨ H.length ≤ j) ∧ ∀ H0 : Hp, H0.length ≤ N → H0 <+: H → H0 <+: H' := by
  obtain ⟨v', H', h1, h2⟩ := h.app (m := m) (n := 1) (bytes := 1) (l2 := [a]) (cs := [.int .u8 (a : Int)]) ho hN hw (fun _ => rfl) (by simp) rfl (fun i b hi => by
    cases i with
    | zero => simp at hi; subst hi; rfl
    | succ i => simp at hi) (by unfold Ev.room; simp; omega) (by unfold Ev.room; simp; omega)
  exact ⟨v', H', fun s x y hH hx hy => h1 s x y hH hx (by rw [hy]; rfl), h2⟩

theorem bytesOf_map : ∀ {l : List Nat}, (∀ n ∈ l, n < 256) → bytesOf (l.map fun (n : Nat) => Value.int .u8 (n : Int)) = some (l.map UInt8.ofNat)
  | [], _ => rfl
  | a :: l, h => by
    have ih := bytesOf_map (l := l) fun n hn => h n (List.mem_cons_of_mem _ hn)
    have ha := h a (by simp)
    simp only [List.map_cons, bytesOf, ih, byteOf, Int.toNat_natCast]

theorem Sl.b2s {H : Hp} {v : Value} {l : List Nat} (h : SlN H v l) (hl : ∀ n ∈ l, n < 256) : ∀ (s : St) (x : X), s.H = H → ex s.ρ x = .val v → b2sK s x = some (.val (.string (strOf l)), s) := by
  obtain ⟨cs, h1, h2, h3⟩ := h.src
  intro s x hH hx
  have hcs : cs = l.map fun (n : Nat) => Value.int .u8 (n : Int) := by
    refine List.ext_getElem? fun j => ?_
    rw [List.getElem?_map]
    by_cases hj : j < l.length
    · have := h3 j _ (List.getElem?_eq_getElem hj)
      unfold En eN at this
      have h4 := getElem?_of_take this (j := 0) (by omega)
      rw [Nat.mul_one, Nat.add_zero] at h4
      rw [h4, List.getElem?_eq_getElem hj]
      rfl
    · rw [List.getElem?_eq_none (by omega), List.getElem?_eq_none (by omega)]
      rfl
  unfold b2sK
  rw [hx, hH, h1]
  simp only
  rw [hcs, bytesOf_map hl]
  rfl

theorem wrap8 (n : Int) (h0 : 0 ≤ n) (h1 : n < 256) : IntKind.u8.wrap n = n := by
  simp [IntKind.wrap, IntKind.bits, IntKind.signed]
  omega

theorem own_newN {H : Hp} : SlN (H ++ [[]]) (.slice (some ⟨H.length, 0, some 1⟩) 0 (0 * 1)) [] := .inr ⟨H.length, 0, 0, [], rfl, by simp, by simp, by simp, by simp, fun i a hi => by simp at hi⟩

theorem and7 {k : Nat} (h : k < 9223372036854775808) : IntKind.i64.wrap ((BitVec.ofInt IntKind.i64.bits (k : Int) &&& BitVec.ofInt IntKind.i64.bits 127).toNat : Int) = ((k % 128 : Nat) : Int) := by
  have h1 : (BitVec.ofInt IntKind.i64.bits (k : Int) &&& BitVec.ofInt IntKind.i64.bits 127).toNat = k % 128 := by
    show (BitVec.ofInt 64 (k : Int) &&& BitVec.ofInt 64 127).toNat = _
    rw [BitVec.toNat_and, BitVec.toNat_ofInt, BitVec.toNat_ofInt]
    have e1 : ((k : Int) % ((2 ^ 64 : Nat) : Int)).toNat = k := by
      rw [Int.emod_eq_of_lt (by omega) (by omega)]
      simp
    rw [e1]
    exact Nat.and_two_pow_sub_one_eq_mod k 7
  rw [h1, wrap64 _ (by omega) (by omega)]

theorem or128 {k : Nat} (h : k < 128) : IntKind.i64.wrap ((BitVec.ofInt IntKind.i64.bits (k : Int) ||| BitVec.ofInt IntKind.i64.bits 128).toNat : Int) = ((k + 128 : Nat) : Int) := by
  have h1 : (BitVec.ofInt IntKind.i64.bits (k : Int) ||| BitVec.ofInt IntKind.i64.bits 128).toNat = k + 128 := by
    show (BitVec.ofInt 64 (k : Int) ||| BitVec.ofInt 64 128).toNat = _
    rw [BitVec.toNat_or, BitVec.toNat_ofInt, BitVec.toNat_ofInt]
    have e1 : ((k : Int) % ((2 ^ 64 : Nat) : Int)).toNat = k := by
      rw [Int.emod_eq_of_lt (by omega) (by omega)]
      simp
    rw [e1]
    show k ||| 128 = k + 128
    have := Nat.two_pow_add_eq_or_of_lt (i := 7) (b := k) (by omega) 1
    rw [Nat.or_comm]
    simp at this
    omega
  rw [h1, wrap64 _ (by omega) (by omega)]

/-- Lower bits of a byte. -/
theorem and7u {b : Nat} (h : b < 256) : IntKind.u8.wrap ((BitVec.ofInt IntKind.u8.bits (b : Int) &&& BitVec.ofInt IntKind.u8.bits 127).toNat : Int) = ((b % 128 : Nat) : Int) := by
  have h1 : (BitVec.ofInt IntKind.u8.bits (b : Int) &&& BitVec.ofInt IntKind.u8.bits 127).toNat = b % 128 := by
    show (BitVec.ofInt 8 (b : Int) &&& BitVec.ofInt 8 127).toNat = _
    rw [BitVec.toNat_and, BitVec.toNat_ofInt, BitVec.toNat_ofInt]
    have e1 : ((b : Int) % ((2 ^ 8 : Nat) : Int)).toNat = b := by
      rw [Int.emod_eq_of_lt (by omega) (by omega)]
      simp
    rw [e1]
    exact Nat.and_two_pow_sub_one_eq_mod b 7
  rw [h1, wrap8 _ (by omega) (by omega)]

/-- Bits above bits. -/
theorem orHi {n b k : Nat} (hn : n < 128 ^ k) (hb : b < 128) (hk : k ≤ 6) : IntKind.i64.wrap ((BitVec.ofInt IntKind.i64.bits (n : Int) ||| BitVec.ofInt IntKind.i64.bits ((b * 128 ^ k : Nat) : Int)).toNat : Int) = ((n + b * 128 ^ k : Nat) : Int) := by
  have hp : (128 : Nat) ^ k ≤ 128 ^ 6 := Nat.pow_le_pow_right (by decide) hk
  have h6 : (128 : Nat) ^ 6 = 4398046511104 := by decide
  have hm : b * 128 ^ k ≤ 127 * 128 ^ k := Nat.mul_le_mul_right _ (by omega)
  have hm2 : n + b * 128 ^ k < 9223372036854775808 := by
    generalize b * 128 ^ k = q at *
    omega
  have h1 : (BitVec.ofInt IntKind.i64.bits (n : Int) ||| BitVec.ofInt IntKind.i64.bits ((b * 128 ^ k : Nat) : Int)).toNat = n + b * 128 ^ k := by
    show (BitVec.ofInt 64 (n : Int) ||| BitVec.ofInt 64 ((b * 128 ^ k : Nat) : Int)).toNat = _
    rw [BitVec.toNat_or, BitVec.toNat_ofInt, BitVec.toNat_ofInt]
    have e0 : ∀ x : Nat, x < 9223372036854775808 → ((x : Int) % ((2 ^ 64 : Nat) : Int)).toNat = x := fun x hx => by
      rw [Int.emod_eq_of_lt (by omega) (by omega)]
      simp
    rw [e0 n (by omega), e0 _ (by generalize b * 128 ^ k = q at *; omega)]
    have hpow : (128 : Nat) ^ k = 2 ^ (7 * k) := by rw [show (128 : Nat) = 2 ^ 7 by decide, ← Nat.pow_mul]
    rw [hpow] at hn ⊢
    have := Nat.two_pow_add_eq_or_of_lt hn b
    rw [Nat.or_comm, Nat.mul_comm b, ← this, Nat.add_comm]
  rw [h1, wrap64 _ (by omega) (by omega)]
end Go.Proofs.YtglboiahgpfjdaaGreat.Ev

/- A number's text, and what follows it, read again: plain. -/
namespace Go.Proofs.YtglboiahgpfjdaaGreat.Ev
set_option linter.all false
open Go

theorem cat_left {a b : ByteArray} {i : Nat} (h : i < a.size) : (a ++ b)[i]? = a[i]? := by
  show (a ++ b).data[i]? = a.data[i]?
  rw [ByteArray.data_append, Array.getElem?_append_left (show i < a.data.size from h)]
end Go.Proofs.YtglboiahgpfjdaaGreat.Ev

/- A row of plain elements behind another one; one element taken out of a row. -/
namespace Go.Proofs.YtglboiahgpfjdaaGreat.Ev
set_option linter.all false
open Go

section
variable {m : Md} {α : Type} {enc : α → List Value} {esz : Nat} {H : Hp} {v u : Value} {l l2 : List α}

end
end Go.Proofs.YtglboiahgpfjdaaGreat.Ev

/- Terms within longer texts; what was written is read back: plain. -/
namespace Go.Proofs.YtglboiahgpfjdaaGreat.Ev
set_option linter.all false
open Go

theorem valB_ext {s y : ByteArray} : ∀ {k : Nat}, k ≤ s.size → valB (s ++ y) k = valB s k
  | 0, _ => rfl
  | k + 1, h => by rw [valB, valB, valB_ext (by omega), cat_left (by omega)]
theorem extract_ext {s y : ByteArray} {a k : Nat} (h : k ≤ s.size) : (s ++ y).extract a k = s.extract a k := by
  refine ByteArray.ext ?_
  rw [ByteArray.data_extract, ByteArray.data_extract, ByteArray.data_append, Array.extract_append]
  have : s.size = s.data.size := rfl
  have h2 : k - s.data.size = 0 := by omega
  rw [h2]
  simp
theorem readV.ext {s y : ByteArray} {n k : Nat} (h : readV s n k) : readV (s ++ y) n k := by
  obtain ⟨h1, h2, h3, h4, h5⟩ := h
  refine ⟨h1, h2, by rw [ByteArray.size_append]; omega, by rw [valB_ext h3]; exact h4, ?_⟩
  unfold isV
  rw [valB_ext h3, extract_ext h3]
  exact h5
end Go.Proofs.YtglboiahgpfjdaaGreat.Ev

/- An element read and written; the front of a row of one's own; shared. -/
namespace Go.Proofs.YtglboiahgpfjdaaGreat.Ev
set_option linter.all false
open Go

theorem Sl.both {α : Type} {R : α → List Value → Prop} {esz : Nat} {H : Hp} {v : Value} {l : List α} (h : Sl R esz H v l) {i : Nat} (hi : i < l.length) : ∃ id p o, H[id]? = some o ∧ p + esz ≤ o.length ∧ idsOf v = [id] ∧ R l[i] ((o.drop p).take esz) ∧
    (∀ (s : St) (x y : X), exv s.ρ x = some v → exv s.ρ y = some (.int .i64 i) → iadrK s esz x y = some (.val (.pointer (some ⟨id, p, some o.length⟩)), s)) ∧
    ∀ a cs, cs.length = esz → R a cs → Sl R esz (H.set id (spl o p cs)) v (l.set i a) := by
  obtain ⟨id, p, o, h1, h2, h3, h4, h5⟩ := h.store hi
  obtain ⟨id', p', o', g1, g2, g3, g4⟩ := h.elem (List.getElem?_eq_getElem hi)
  have e1 := h4 { ρ := fun t => if t = 0 then .val v else .val (.int .i64 i), gn := 0, H := [] } (.t 0) (.t 1) rfl rfl
  have e2 := g4 { ρ := fun t => if t = 0 then .val v else .val (.int .i64 i), gn := 0, H := [] } (.t 0) (.t 1) rfl rfl
  rw [e1] at e2
  simp only [Option.some.injEq, Prod.mk.injEq, FV.val.injEq, Value.pointer.injEq, Addr.mk.injEq, and_true] at e2
  obtain ⟨rfl, rfl, _⟩ := e2
  rw [h1] at g1
  cases g1
  exact ⟨id, p, o, h1, h2, h3, g2, h4, h5⟩
end Go.Proofs.YtglboiahgpfjdaaGreat.Ev

/- The machine's rules under one name. -/
namespace Go.Proofs.YtglboiahgpfjdaaGreat.Ev
set_option linter.all false
open Go
attribute [go_sem] go_nil go_blk go_skip go_ret go_exit go_seq go_block go_reg go_r0 go_r go_d0 go_d go_e0 go_e box2 go_w0 go_w box3 Option.isSome_some Nat.le_refl go_cond go_o go_g aft_some cnd_bool grd_bool grd_tup brT_true brT_false brT_not thr_exit thr_c thr_nil stp stepK movK mv1 ex exv exvs upd_some upd_none ini St.val binK binV ofV pickK unK unV beqK beq_true beq_false if_true if_false List.getElem?_cons_zero List.getElem?_cons_succ loadK adr deref Ad.fv Ad.live fadrK List.length_cons List.length_nil List.drop_zero List.drop_succ_cons List.take_succ_cons List.take_zero Nat.zero_add Nat.add_zero aeqK agEq scEq boxVK newVK exc vc_agg vc_int vc_bool vc_str vc_ptr vc_sl vc_fn boxOf adInf List.reverse_cons List.reverse_nil List.nil_append List.cons_append extK Bool.and_true Bool.true_and Bool.not_true Bool.not_false resT resVs resV true_and and_true storeK spl_nil spl_z spl_1 spl_2 spl_3 spl_4 spl_5 spl_6 spl_7 spl_8 scal_int scal_bool scal_str scal_nil implies_true Bool.and_self Post_ret Post_normal PostS_ret PostS_normal retT_true retT_false flat_bool flat_int flat_str List.take_length decide_true decide_false Option.some.injEq Value.bool.injEq Value.int.injEq Bool.false_and Bool.and_false not_false_eq_true not_true_eq_false toIntK List.length_set Bool.not_eq_true Bool.not_eq_false List.all_cons List.all_nil exps fillL buildK strK nilcK fnK callVT List.size_toArray List.append_nil List.singleton_append boxOK newOK List.isEmpty_nil List.isEmpty_cons mkVK mkOK mkCells zeros_0 zeros_1 zeros_2 zeros_3 zeros_4 List.map_cons List.map_nil
end Go.Proofs.YtglboiahgpfjdaaGreat.Ev

/- The seat's program on the small machine: which slots hold boxes of their own, which functions leave memory as it is. -/
namespace Go.Proofs.YtglboiahgpfjdaaGreat.Ev
set_option linter.all false
open Go
def hvT : List (Nat × List Nat) := [(3, [1, 4, 5, 6]), (4, [1, 5]), (5, [1, 5]), (6, [3, 5]), (7, [2]), (8, [1, 2, 3]), (9, [1, 2, 3]), (10, [1, 2, 3, 5]), (11, [2, 3]), (12, [2, 3]), (13, [1, 6, 9]), (14, [1, 5, 7, 21]), (15, [1]), (16, [1, 3, 5]), (18, [2]), (19, [1, 8]), (20, [2]), (22, [2]), (29, [1, 2, 3]), (31, [1, 2, 3]), (38, [1, 4, 6, 8, 10]), (39, [2, 3]), (41, [2, 3]), (53, [4, 5, 53, 75, 84, 99]), (55, [1]), (56, [1]), (58, [1]), (59, [1]), (60, [1]), (64, [2]), (65, [2]), (66, [2]), (68, [1, 2, 3]), (69, [1, 2, 3]), (70, [1, 2, 3]), (71, [1, 2, 3]), (72, [1, 2, 3]), (73, [1]), (74, [1]), (75, [1, 4]), (76, [2]), (80, [1]), (83, [1]), (85, [2, 3]), (86, [2, 3]), (87, [2, 3]), (88, [2, 3]), (89, [2, 3]), (90, [26, 31]), (91, [4, 5, 6]), (96, [2, 3]), (97, [8]), (101, [1]), (102, [1]), (103, [3]), (105, [1, 2, 3]), (106, [1, 2, 3]), (108, [1, 2, 3]), (113, [1]), (114, [1]), (115, [3]), (121, [6]), (122, [1]), (123, [1]), (126, [2, 3]), (127, [2, 3]), (129, [2, 3]), (130, [2, 3, 22, 33, 57, 81]), (131, [2, 4, 7, 10, 45]), (132, [4, 7, 14, 87, 113]), (134, [52]), (136, [2, 3, 27, 40, 49, 79]), (138, [2]), (139, [3]), (141, [3]), (143, [3]), (145, [1, 2, 4, 21]), (146, [2, 3, 4, 6]), (147, [5, 8, 54, 74, 96]), (148, [2]), (149, [3, 4, 9]), (151, [34]), (155, [2, 3]), (156, [2, 3]), (157, [1]), (158, [26]), (159, [1]), (160, [15, 22]), (162, [3]), (163, [1, 2]), (164, [0]), (165, [2, 3]), (166, [2, 3, 4, 7, 9, 126]), (167, [3]), (168, [3, 13]), (169, [5]), (172, [15, 22]), (175, [2, 4, 6]), (178, [2, 3, 4, 6, 9, 11]), (179, [2, 3, 4, 6, 7, 48]), (180, [2, 3, 4, 6, 7, 50]), (181, [3, 4]), (182, [2, 3, 4, 6, 7, 54]), (184, [2, 4]), (185, [2]), (186, [2, 4, 18]), (187, [4]), (188, [2, 15]), (189, [1]), (190, [47]), (191, [9, 11]), (192, [2]), (196, [5, 10]), (197, [10, 16]), (198, [5, 8, 10, 11, 17, 19, 21]), (199, [1, 2]), (200, [31, 38, 44]), (201, [1, 73, 102]), (203, [2, 4, 23]), (204, [2]), (205, [36]), (206, [7, 14, 19, 20, 21, 22]), (207, [7, 14, 15, 17, 20, 23, 24, 27, 30, 103]), (208, [4, 14, 16]), (209, [1, 2]), (210, [4, 14, 20]), (211, [4, 10]), (212, [4]), (213, [4, 5, 8, 76, 84]), (218, [7, 8]), (219, [2]), (220, [2, 6]), (221, [3, 6, 9, 12]), (222, [2, 3, 4, 5]), (223, [8, 11, 13, 15, 16, 19, 98]), (224, [1])]
def hv (f t : Nat) : Bool := match hvT.find? (·.1 == f) with | some p => p.2.contains t | none => false
def trT : List Nat := [7, 8, 10, 11, 12, 13, 14, 15, 16, 17, 19, 20, 21, 22, 23, 24, 25, 26, 27, 28, 38, 39, 40, 41, 42, 43, 44, 45, 46, 47, 48, 49, 50, 51, 55, 56, 57, 58, 59, 60, 61, 62, 63, 64, 65, 66, 73, 74, 75, 76, 77, 78, 79, 80, 81, 82, 83, 84, 85, 86, 87, 88, 89, 90, 92, 93, 94, 97, 98, 99, 100, 101, 102, 103, 104, 109, 110, 111, 112, 113, 114, 115, 116, 117, 118, 119, 120, 121, 122, 123, 124, 125, 126, 127, 128, 129, 133, 139, 140, 141, 142, 143, 144, 157, 160, 161, 162, 172]
noncomputable def EE : Env := { fns := fnsOf Go.Proofs.Tryz.prog hv, prim := fun _ => none, pw := fun f => [].contains f, tr := fun f => trT.contains f }
end Go.Proofs.YtglboiahgpfjdaaGreat.Ev
