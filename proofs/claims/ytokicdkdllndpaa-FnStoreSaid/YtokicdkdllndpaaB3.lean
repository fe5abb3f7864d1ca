/- Texts of this proof, laid one behind the other: what each shows stands at its head. -/
import Derived.Test.YtokicdkdllndpaaB2
import Derived.ChangeSame
import Derived.ChangeShapes
import Derived.WideShapes
import Derived.Carry
import Derived.Sort.Grow
import Derived.Test.YtokicdkdllndpaaProg
import Derived.Test.YtokicdkdllndpaaRows
/- Slices as lists; functions that leave memory as it is. -/
namespace Go.Proofs.Ytokicdkdllndpaa.Ev
set_option linter.all false
open Go

section
variable {E : Env} {m : Md}

theorem Fun.det {f : Nat} {vs : List Value} {H : Hp} {P Q : Value → Hp → Prop} (h : Fun E m f vs H P) (k : Fun E m f vs H Q) : Fun E m f vs H fun r H' => P r H' ∧ Q r H' := by
  obtain ⟨k1, r1, H1, h1, h2⟩ := h
  obtain ⟨k2, r2, H2, h3, h4⟩ := k
  have e1 := evF_mono k2 h1
  have e2 := evF_mono k1 h3
  rw [Nat.add_comm] at e2
  rw [e1] at e2
  cases e2
  exact ⟨k1, r1, H1, h1, h2, h4⟩

/-- A function that answers this and leaves memory as it is, however it is called. -/
def Scal (E : Env) (f : Nat) (vs : List Value) (H : Hp) (r : Value) : Prop := ∀ m : Md, (∀ id, H.length ≤ id → m.wr id = true) → Fun E m f vs H fun r' H' => r' = r ∧ H' = H

theorem callT_scal {f : Nat} {vs : List Value} {H : Hp} {r : Value} (h : Scal E f vs H r) {draw : Bool} {s : St} {d : Option Nat} {ts : List Tk} {Q : Ex → St → Prop} (hH : s.H = H) (hw : ∀ id, H.length ≤ id → m.wr id = true) :
    callT E m draw f (some vs) s d ts Q = go E m ts { s with ρ := upd s.ρ d (.val r) } Q := by
  subst hH
  have hm := h (if draw then m.drawn E.pw s.H f vs else m) (fun id hid => by
    cases draw with
    | false => exact hw id hid
    | true => simp only [if_true, Md.drawn]; simp [hid])
  unfold callT opt
  simp only
  refine propext ⟨fun hf => ?_, fun hg => hm.mono fun r' H' ⟨e1, e2⟩ => by subst e1; subst e2; exact hg⟩
  obtain ⟨_, _, _, _, ⟨e1, e2⟩, h2⟩ := hm.det hf
  subst e1; subst e2
  exact h2

/-- New rows may be written. -/
def Wr (m : Md) (H : Hp) : Prop := ∀ id, H.length ≤ id → m.wr id = true

theorem callT_at {f : Nat} {vs : List Value} {H : Hp} {r : Value} (h : Scal E f vs H r) {draw : Bool} {s : St} {d : Option Nat} {ts : List Tk} {Q : Ex → St → Prop} (hH : s.H = H) (hw : Wr m H) :
    callT E m draw f (some vs) s d ts Q = go E m ts { s with ρ := upd s.ρ d (.val r) } Q := callT_scal h hH hw

theorem callT_to {f : Nat} {vs : List Value} {H : Hp} {P : Value → Hp → Prop} {draw : Bool} {s : St} {d : Option Nat} {ts : List Tk} {Q : Ex → St → Prop} (h : ∀ m' : Md, Wr m' H → Fun E m' f vs H P) (hH : s.H = H) (hw : Wr m H)
    (hq : ∀ r H', P r H' → go E m ts { s with H := H', ρ := upd s.ρ d (.val r) } Q) : callT E m draw f (some vs) s d ts Q := by
  subst hH
  exact callT_ok (fun m' _ h2 _ _ => h m' h2) hw hq

theorem Wr.pre {H H' : Hp} (h : Wr m H) (hp : H <+: H') : Wr m H' := fun id hid => h id (Nat.le_trans hp.length_le hid)

theorem Scal.fun {f : Nat} {vs : List Value} {H : Hp} {r : Value} (h : Scal E f vs H r) (hw : ∀ id, H.length ≤ id → m.wr id = true) {Q : Value → Hp → Prop} (hq : Q r H) : Fun E m f vs H Q :=
  (h m hw).mono fun _ _ ⟨e1, e2⟩ => by subst e1; subst e2; exact hq

/-- A slice that stands for a list; what an element's cells must be is told by R. -/
def Sl {α : Type} (R : α → List Value → Prop) (esz : Nat) (H : Hp) (v : Value) (l : List α) : Prop :=
  (v = .slice none 0 0 ∧ l = []) ∨ ∃ id off cap o, v = .slice (some ⟨id, off, some esz⟩) l.length cap ∧ H[id]? = some o ∧ off + cap = o.length ∧ l.length * esz ≤ cap ∧ l.length ≤ 9223372036854775807 ∧
    ∀ i a, l[i]? = some a → R a ((o.drop (off + i * esz)).take esz)

/-- Elements of plain cells. -/
def En {α : Type} (enc : α → List Value) (a : α) (cs : List Value) : Prop := cs = enc a

def eI (n : Int) : List Value := [.int .i64 n]

theorem getElem?_of_take {o : List Value} {a n j : Nat} {cs : List Value} (h : (o.drop a).take n = cs) (hj : j < n) : o[a + j]? = cs[j]? := by
  subst h
  rw [List.getElem?_take, if_pos hj, List.getElem?_drop]

section
variable {α : Type} {R : α → List Value → Prop} {esz : Nat} {H : Hp} {v : Value} {l : List α}

theorem Sl.len (h : Sl R esz H v l) {s : St} {x : X} (hx : exv s.ρ x = some v) : lenSK s x = some (.val (.int .i64 l.length), s) := by
  unfold lenSK
  rw [hx]
  rcases h with ⟨rfl, rfl⟩ | ⟨id, off, cap, o, rfl, _⟩ <;> rfl

theorem Sl.room (h : Sl R esz H v l) : l.length ≤ 9223372036854775807 := by
  rcases h with ⟨rfl, rfl⟩ | ⟨id, off, cap, o, rfl, ho, hc, hn, hrm, hr⟩
  · simp
  · exact hrm

theorem Sl.elem (h : Sl R esz H v l) {i : Nat} {a : α} (hi : l[i]? = some a) : ∃ id p o, H[id]? = some o ∧ R a ((o.drop p).take esz) ∧ p + esz ≤ o.length ∧
    ∀ (s : St) (x y : X), exv s.ρ x = some v → exv s.ρ y = some (.int .i64 i) → iadrK s esz x y = some (.val (.pointer (some ⟨id, p, some o.length⟩)), s) := by
  have hl := (List.getElem?_eq_some_iff.1 hi).1
  rcases h with ⟨rfl, rfl⟩ | ⟨id, off, cap, o, rfl, ho, hc, hn, hrm, hr⟩
  · simp at hi
  · have hm : (i + 1) * esz ≤ l.length * esz := Nat.mul_le_mul_right _ (by omega)
    rw [Nat.succ_mul] at hm
    refine ⟨id, off + i * esz, o, ho, hr i a hi, by omega, fun s x y hx hy => ?_⟩
    unfold iadrK
    rw [hx, hy]
    simp only [Int.toNat_natCast, hc]
    rw [if_pos ⟨trivial, by omega, by omega⟩]

theorem Sl.take (h : Sl R esz H v l) {i : Nat} (hi : i ≤ l.length) : ∃ v', Sl R esz H v' (l.take i) ∧
    ∀ (s : St) (x y : X), exv s.ρ x = some v → exv s.ρ y = some (.int .i64 i) → slcK s esz x none (some y) = some (.val v', s) := by
  rcases h with ⟨rfl, rfl⟩ | ⟨id, off, cap, o, rfl, ho, hc, hn, hrm, hr⟩
  · simp at hi
    subst hi
    refine ⟨.slice none 0 0, .inl ⟨rfl, by simp⟩, fun s x y hx hy => ?_⟩
    simp only [slcK, bnd, hx, hy]
    rfl
  · have hm : i * esz ≤ l.length * esz := Nat.mul_le_mul_right _ hi
    refine ⟨.slice (some ⟨id, off, some esz⟩) i cap, .inr ⟨id, off, cap, o, by rw [List.length_take, Nat.min_eq_left hi], ho, hc, by rw [List.length_take, Nat.min_eq_left hi]; omega, by rw [List.length_take]; omega, fun j a hj => ?_⟩, fun s x y hx hy => ?_⟩
    · rw [List.getElem?_take] at hj
      split at hj
      · exact hr j a hj
      · cases hj
    · simp only [slcK, bnd, hx, hy]
      rw [if_pos ⟨trivial, by omega, by omega, .inl (by omega), by simp⟩]
      simp [St.val]

/-- What stays as long as its rows stay. -/
theorem Sl.frame {R' : α → List Value → Prop} {H' : Hp} (h : Sl R esz H v l) (hr : ∀ a ∈ l, ∀ cs, R a cs → R' a cs) (hH : ∀ id off e len cap, v = .slice (some ⟨id, off, e⟩) len cap → H'[id]? = H[id]?) : Sl R' esz H' v l := by
  rcases h with ⟨rfl, rfl⟩ | ⟨id, off, cap, o, rfl, ho, hc, hn, hrm, hr2⟩
  · exact .inl ⟨rfl, rfl⟩
  · exact .inr ⟨id, off, cap, o, rfl, by rw [hH _ _ _ _ _ rfl]; exact ho, hc, hn, hrm, fun i a hi => hr a (List.mem_of_getElem? hi) _ (hr2 i a hi)⟩

end

/-- How a function ends. -/
def retT (v : Option Value) (tr : Bool) (H H' : Hp) (Q : Value → Hp → Prop) : Prop :=
  match v with
  | some v => (tr = true → flatScal v = true) ∧ Q v (if tr = true then H'.take H.length else H')
  | none => False

theorem post_ret {f : Nat} {res : List RV} {H : Hp} {Q : Value → Hp → Prop} {s : St} : FunPost E f res H Q .ret s = retT (resT s res) (E.tr f) H s.H Q := by
  unfold FunPost opt retT
  simp only
  cases resT s res with
  | none => rfl
  | some v => cases E.tr f <;> simp
theorem post_normal {f : Nat} {res : List RV} {H : Hp} {Q : Value → Hp → Prop} {s : St} : FunPost E f res H Q .normal s = retT (resT s res) (E.tr f) H s.H Q := by
  rw [← post_ret]; rfl
theorem Zby {v : Value} {H H' : Hp} {Q : Value → Hp → Prop} : retT (some v) true H H' Q = (flatScal v = true ∧ Q v (H'.take H.length)) := by simp [retT]
theorem Zbz {v : Value} {H H' : Hp} {Q : Value → Hp → Prop} : retT (some v) false H H' Q = Q v H' := by simp [retT]
theorem Zb0 (b : Bool) : flatScal (.bool b) = true := rfl
theorem Zb1 (k : IntKind) (n : Int) : flatScal (.int k n) = true := rfl
theorem Zb2 (n : ByteArray) : flatScal (.string n) = true := rfl

/-- How a function's code is to end. -/
def Post (res : List RV) (tr : Bool) (H : Hp) (Q : Value → Hp → Prop) (e : Ex) (s : St) : Prop :=
  match e with
  | .exit _ => False
  | _ => retT (resT s res) tr H s.H Q
theorem Zbu {res : List RV} {tr : Bool} {H : Hp} {Q : Value → Hp → Prop} {s : St} : Post res tr H Q .ret s = retT (resT s res) tr H s.H Q := rfl
theorem Zbv {res : List RV} {tr : Bool} {H : Hp} {Q : Value → Hp → Prop} {s : St} : Post res tr H Q .normal s = retT (resT s res) tr H s.H Q := rfl
def PostS (res : List RV) (H : Hp) (r : Value) (e : Ex) (s : St) : Prop :=
  match e with
  | .exit _ => False
  | _ => resT s res = some r ∧ s.H.take H.length = H
theorem Zbw {res : List RV} {H : Hp} {r : Value} {s : St} : PostS res H r .ret s = (resT s res = some r ∧ s.H.take H.length = H) := rfl
theorem Zbx {res : List RV} {H : Hp} {r : Value} {s : St} : PostS res H r .normal s = (resT s res = some r ∧ s.H.take H.length = H) := rfl

theorem fun_ok {f : Nat} {cf : CF} {vs : List Value} {H : Hp} {Q : Value → Hp → Prop} {tr : Bool} (ht : E.tr f = tr) (hp : E.prim f = none) (hf : E.fns f = some cf) (hl : vs.length ≤ cf.nt)
    (h : go E { m with nr := m.nr || tr } [.c cf.body] { ρ := ini vs, gn := 0, H := H } (Post cf.res tr H Q)) : Fun E m f vs H Q := by
  subst ht
  refine Fun.intro hp hf hl ((go_run h).mono fun e s' h' => ?_)
  cases e with
  | normal => rw [post_normal]; exact h'
  | exit j => exact h'
  | ret => rw [post_ret]; exact h'

theorem fun_f {f : Nat} {cf : CF} {vs : List Value} {H : Hp} {Q : Value → Hp → Prop} (ht : E.tr f = false) (hp : E.prim f = none) (hf : E.fns f = some cf) (hl : vs.length ≤ cf.nt)
    (h : go E m [.c cf.body] { ρ := ini vs, gn := 0, H := H } (Post cf.res false H Q)) : Fun E m f vs H Q :=
  fun_ok ht hp hf hl (by rw [Bool.or_false]; exact h)

theorem scal_ok {f : Nat} {cf : CF} {vs : List Value} {H : Hp} {r : Value} (ht : E.tr f = true) (hp : E.prim f = none) (hf : E.fns f = some cf) (hl : vs.length ≤ cf.nt) (hr : flatScal r = true)
    (h : ∀ m : Md, Wr m H → go E m [.c cf.body] { ρ := ini vs, gn := 0, H := H } (PostS cf.res H r)) : Scal E f vs H r := by
  intro m hw
  refine Fun.intro hp hf hl ((go_run (h { m with nr := m.nr || E.tr f } hw)).mono fun e s' h' => ?_)
  cases e with
  | normal => rw [post_normal, h'.1, ht, Zby]; exact ⟨hr, rfl, h'.2⟩
  | exit j => exact h'
  | ret => rw [post_ret, h'.1, ht, Zby]; exact ⟨hr, rfl, h'.2⟩

/-- A loop that counts up. -/
theorem go_for {s : St} {Q : Ex → St → Prop} {ts : List Tk} {b : Nat} {c : CC} (N : Nat) (I : Nat → St → Prop) (P : St → Prop) (h0 : I 0 s)
    (step : ∀ i s, i ≤ N → I i s → go E m [.c c] s fun e s' => match e with
      | .normal => i < N ∧ I (i + 1) s'
      | .exit j => j = b ∧ P s'
      | .ret => Q .ret s')
    (hp : ∀ s, P s → go E m ts s Q) : go E m (.c (.loop c) :: .blk b :: ts) s Q := by
  refine go_loop (fun n s => ∃ i, n = N - i ∧ i ≤ N ∧ I i s) P N ⟨0, by simp, by simp, h0⟩ (fun n s h => ?_) hp
  obtain ⟨i, rfl, hi, hI⟩ := h
  refine go_mono (step i s hi hI) fun e s' h => ?_
  cases e with
  | normal => exact ⟨N - (i + 1), by omega, i + 1, rfl, by omega, h.2⟩
  | exit j => exact h
  | ret => exact h

theorem Zbg (o : List Value) (i : Nat) : spl o i [] = o := rfl
theorem Zbh : ∀ (cs : List Value) (x : Value) (xs : List Value) (c : Value), spl (x :: xs) 0 (c :: cs) = c :: spl xs 0 cs := by
  have h : ∀ (cs : List Value) (x : Value) (xs : List Value) (i : Nat), spl (x :: xs) (i + 1) cs = x :: spl xs i cs := by
    intro cs
    induction cs with
    | nil => intros; rfl
    | cons c cs ih => intro x xs i; rw [spl, spl, List.set_cons_succ, ih]
  intro cs x xs c
  rw [spl, List.set_cons_zero, h]
theorem spl_s (cs : List Value) : ∀ (x : Value) (xs : List Value) (i : Nat), spl (x :: xs) (i + 1) cs = x :: spl xs i cs := by
  induction cs with
  | nil => intros; rfl
  | cons c cs ih => intro x xs i; rw [spl, spl, List.set_cons_succ, ih]
section
variable (cs : List Value) (x : Value) (xs : List Value)
theorem Zbi : spl (x :: xs) 1 cs = x :: spl xs 0 cs := spl_s cs x xs 0
theorem Zbj : spl (x :: xs) 2 cs = x :: spl xs 1 cs := spl_s cs x xs 1
theorem Zbk : spl (x :: xs) 3 cs = x :: spl xs 2 cs := spl_s cs x xs 2
theorem Zbl : spl (x :: xs) 4 cs = x :: spl xs 3 cs := spl_s cs x xs 3
theorem Zbm : spl (x :: xs) 5 cs = x :: spl xs 4 cs := spl_s cs x xs 4
theorem Zbn : spl (x :: xs) 6 cs = x :: spl xs 5 cs := spl_s cs x xs 5
theorem Zbo : spl (x :: xs) 7 cs = x :: spl xs 6 cs := spl_s cs x xs 6
theorem Zbp : spl (x :: xs) 8 cs = x :: spl xs 7 cs := spl_s cs x xs 7
end
theorem Zcb (z : List Value) : zeros 0 z = [] := rfl
theorem Zcc (z : List Value) : zeros 1 z = z := by simp [zeros]
theorem Zcd (z : List Value) : zeros 2 z = z ++ z := by simp [zeros, List.replicate_succ]
theorem Zce (z : List Value) : zeros 3 z = z ++ (z ++ z) := by simp [zeros, List.replicate_succ]
theorem Zcf (z : List Value) : zeros 4 z = z ++ (z ++ (z ++ z)) := by simp [zeros, List.replicate_succ]
theorem Za5 (cs : Array Value) : vc (.agg cs) = some cs.toList := rfl
theorem Za6 (k : IntKind) (n : Int) : vc (.int k n) = some [.int k n] := rfl
theorem Za7 (b : Bool) : vc (.bool b) = some [.bool b] := rfl
theorem Za8 (b : ByteArray) : vc (.string b) = some [.string b] := rfl
theorem Za9 (p : Option Addr) : vc (.pointer p) = some [.pointer p] := rfl
theorem Zba (a : Option Addr) (l c : Nat) : vc (.slice a l c) = some [.slice a l c] := rfl
theorem Zbb (f : Fn) (a c : Array Value) : vc (.func f a c) = some [.func f a c] := rfl
theorem Sl.vc {α : Type} {R : α → List Value → Prop} {esz : Nat} {H : Hp} {v : Value} {l : List α} (h : Sl R esz H v l) : vc v = some [v] := by
  rcases h with ⟨rfl, _⟩ | ⟨_, _, _, _, rfl, _⟩ <;> rfl
theorem Zbq (k : IntKind) (n : Int) : scal (.int k n) = true := rfl
theorem Zbr (b : Bool) : scal (.bool b) = true := rfl
theorem Zbs (b : ByteArray) : scal (.string b) = true := rfl
theorem Zbt : scal (.slice none 0 0) = true := rfl

theorem wrap64 (n : Int) (h0 : -9223372036854775808 ≤ n) (h1 : n < 9223372036854775808) : IntKind.i64.wrap n = n := by
  simp [IntKind.wrap, IntKind.bits, IntKind.signed]
  omega

end
end Go.Proofs.Ytokicdkdllndpaa.Ev

/- Slices that are one's own: writing into them, growing them. -/
namespace Go.Proofs.Ytokicdkdllndpaa.Ev
set_option linter.all false
open Go

/-- A slice with a row of its own, from N on, from the row's start. -/
def OwnS (N : Nat) (v : Value) : Prop := v = .slice none 0 0 ∨ ∃ id e len cap, v = .slice (some ⟨id, 0, some e⟩) len cap ∧ N ≤ id

theorem take_drop_get (o : List Value) (p n j : Nat) : ((o.drop p).take n)[j]? = if j < n then o[p + j]? else none := by
  rw [List.getElem?_take]
  split <;> simp [List.getElem?_drop]

theorem spl_same {o cs : List Value} {p : Nat} (h : p + cs.length ≤ o.length) : ((spl o p cs).drop p).take cs.length = cs := by
  refine List.ext_getElem? fun j => ?_
  rw [take_drop_get]
  by_cases hj : j < cs.length
  · rw [if_pos hj, spl_get, if_pos (by omega), if_pos (by omega), show p + j - p = j by omega]
  · rw [if_neg hj, List.getElem?_eq_none (by omega)]

theorem spl_other {o cs : List Value} {p q n : Nat} (h : q + n ≤ p ∨ p + cs.length ≤ q) : ((spl o p cs).drop q).take n = (o.drop q).take n := by
  refine List.ext_getElem? fun j => ?_
  rw [take_drop_get, take_drop_get]
  by_cases hj : j < n
  · rw [if_pos hj, if_pos hj, spl_get, if_neg (by omega)]
  · rw [if_neg hj, if_neg hj]

theorem pre_set {H0 H : Hp} {id : Nat} {r : List Value} (h : H0 <+: H) (hid : H0.length ≤ id) : H0 <+: H.set id r := by
  obtain ⟨t, rfl⟩ := h
  exact ⟨t.set (id - H0.length) r, by rw [List.set_append_right _ _ hid]⟩

theorem pre_push {H0 H : Hp} {r : List Value} (h : H0 <+: H) : H0 <+: H ++ [r] := by
  obtain ⟨t, rfl⟩ := h
  exact ⟨t ++ [r], by simp⟩

theorem pre_take {H0 H : Hp} (h : H0 <+: H) : H.take H0.length = H0 := by
  obtain ⟨t, rfl⟩ := h
  simp

theorem pre_get {H0 H : Hp} (h : H0 <+: H) {id : Nat} (hid : id < H0.length) : H[id]? = H0[id]? := by
  obtain ⟨t, rfl⟩ := h
  rw [List.getElem?_append_left hid]

section
variable {α : Type} {R : α → List Value → Prop} {esz : Nat} {H : Hp} {v : Value} {l : List α}

/-- What a slice says of older rows stays. -/
theorem Sl.pre {H' : Hp} (h : Sl R esz H v l) (hp : H <+: H') : Sl R esz H' v l := by
  rcases h with ⟨rfl, rfl⟩ | ⟨id, off, cap, o, rfl, ho, hc, hn, hrm, hr⟩
  · exact .inl ⟨rfl, rfl⟩
  · exact .inr ⟨id, off, cap, o, rfl, by rw [pre_get hp (List.getElem?_eq_some_iff.1 ho).1]; exact ho, hc, hn, hrm, hr⟩

theorem Sl.ids (h : Sl R esz H v l) : ∀ id ∈ idsOf v, id < H.length := by
  rcases h with ⟨rfl, rfl⟩ | ⟨id, off, cap, o, rfl, ho, _⟩
  · simp [idsOf]
  · simp only [idsOf, List.mem_singleton]
    rintro _ rfl
    exact (List.getElem?_eq_some_iff.1 ho).1

theorem Sl.other {r : List Value} {id : Nat} (h : Sl R esz H v l) (hid : id ∉ idsOf v) : Sl R esz (H.set id r) v l := by
  rcases h with ⟨rfl, rfl⟩ | ⟨id', off, cap, o, rfl, ho, hc, hn, hrm, hr⟩
  · exact .inl ⟨rfl, rfl⟩
  · simp only [idsOf, List.mem_singleton] at hid
    exact .inr ⟨id', off, cap, o, rfl, by rw [List.getElem?_set_ne (by omega)]; exact ho, hc, hn, hrm, hr⟩

/-- Writing an element. -/
theorem Sl.store (h : Sl R esz H v l) {i : Nat} (hi : i < l.length) : ∃ id p o, H[id]? = some o ∧ p + esz ≤ o.length ∧ idsOf v = [id] ∧
    (∀ (s : St) (x y : X), exv s.ρ x = some v → exv s.ρ y = some (.int .i64 i) → iadrK s esz x y = some (.val (.pointer (some ⟨id, p, some o.length⟩)), s)) ∧
    ∀ a cs, cs.length = esz → R a cs → Sl R esz (H.set id (spl o p cs)) v (l.set i a) := by
  rcases h with ⟨rfl, rfl⟩ | ⟨id, off, cap, o, rfl, ho, hc, hn, hrm, hr⟩
  · simp at hi
  · have hm : (i + 1) * esz ≤ l.length * esz := Nat.mul_le_mul_right _ (by omega)
    rw [Nat.succ_mul] at hm
    have hid := (List.getElem?_eq_some_iff.1 ho).1
    refine ⟨id, off + i * esz, o, ho, by omega, rfl, fun s x y hx hy => ?_, fun a cs hcs hRa => .inr ⟨id, off, cap, spl o (off + i * esz) cs, by rw [List.length_set], by rw [List.getElem?_set_self hid], by rw [spl_length]; exact hc, by rw [List.length_set]; exact hn, by rw [List.length_set]; exact hrm, fun j b hj => ?_⟩⟩
    · unfold iadrK
      rw [hx, hy]
      simp only [Int.toNat_natCast, hc]
      rw [if_pos ⟨trivial, by omega, by omega⟩]
    · rw [List.getElem?_set] at hj
      split at hj
      · rename_i hij
        subst hij
        cases hj
        have := spl_same (o := o) (cs := cs) (p := off + i * esz) (by omega)
        rw [hcs] at this
        rw [this]
        exact hRa
      · rename_i hij
        rw [spl_other]
        · exact hr j b hj
        · rw [hcs]
          by_cases hlt : j < i
          · have : (j + 1) * esz ≤ i * esz := Nat.mul_le_mul_right _ (by omega)
            rw [Nat.succ_mul] at this
            exact .inl (by omega)
          · have : (i + 1) * esz ≤ j * esz := Nat.mul_le_mul_right _ (by omega)
            rw [Nat.succ_mul] at this
            exact .inr (by omega)

end
end Go.Proofs.Ytokicdkdllndpaa.Ev

/- What comes in by a law's parameters, as rows of the small machine. -/
namespace Go.Proofs.Ytokicdkdllndpaa.Ev
set_option linter.all false
open Go Go.ChangeShapes Go.WideShapes Go.RowKit

/-- Is there a block of cells at all? -/
def Blk (w : World) : Prop := ∃ (b : Nat) (ds : Array Value) (e : TypeId) (lo hi : Nat), w.heap[b]? = some (.cells ds e (lo, hi))

/-- Rows that are only read. -/
def RdRel (J : Inj) (M : Hp) (w : World) : Prop := WRel M.length J M w

def Ext (J : Inj) (M : Hp) (J' : Inj) (M' : Hp) : Prop := M <+: M' ∧ ∀ id, id < M.length → J' id = J id

theorem Ext.refl (J : Inj) (M : Hp) : Ext J M J M := ⟨List.prefix_refl _, fun _ _ => rfl⟩
theorem Ext.trans {J J' J'' : Inj} {M M' M'' : Hp} (h : Ext J M J' M') (k : Ext J' M' J'' M'') : Ext J M J'' M'' :=
  ⟨h.1.trans k.1, fun id hid => (k.2 id (Nat.lt_of_lt_of_le hid h.1.length_le)).trans (h.2 id hid)⟩
theorem Ext.keep {J J' : Inj} {M M' : Hp} (h : Ext J M J' M') : Keep J M J' M' := fun id o ho =>
  ⟨o, by rw [pre_get h.1 (List.getElem?_eq_some_iff.1 ho).1]; exact ho, .inr ⟨rfl, h.2 id (List.getElem?_eq_some_iff.1 ho).1⟩⟩

/-- Values of a type, brought into the machine: what stands for them, and what is known of them. -/
structure Bld {α : Type} (P : Program) (t : TypeId) (sz : Nat) (R : Hp → α → List Value → Prop) (ok : α → Prop) : Prop where
  cells : P.cellsOf t = sz
  pos : 0 < sz
  mono : ∀ {M M' : Hp} {z : α} {vs : List Value}, M <+: M' → R M z vs → R M' z vs
  bld : ∀ {H : Type} {enc : TypeId × Value → H} {w : World} {base : Nat} {held : Bool} {fuel : Nat} {cs : List Value} {x : DataW H × List MemPlace},
    DataW.trod enc P w base (fun _ => true) held fuel t cs = some x → (∀ a l c, .slice (some a) l c ∈ cs → Blk w) → ∀ (J : Inj) (M : Hp), RdRel J M w →
    ∃ (J' : Inj) (M' : Hp) (vs : List Value) (z : α), Ext J M J' M' ∧ RdRel J' M' w ∧ LRel J' M' vs cs ∧ (∀ v ∈ vs, v.oneCell' = true) ∧ R M' z vs ∧ ok z

theorem RdRel.nil (w : World) : RdRel (fun _ => none) [] w :=
  ⟨fun id o h => by simp at h, fun _ _ _ _ _ _ h _ => by simp at h, fun _ _ => rfl⟩

section
variable {P : Program}

theorem Bld.int {k : IntKind} {t : TypeId} (ht : P.underlying t = some (.int k)) (hc : P.cellsOf t = 1) : Bld P t 1 (fun _ n vs => vs = [.int k n]) (fun n => (Lit.int k n).wf = true) :=
  ⟨hc, by omega, fun _ h => h, fun h _ J M hr => by
    obtain ⟨n, rfl, _, hw⟩ := DataW.trod_int ht h
    exact ⟨J, M, _, n, .refl _ _, hr, .cons (.int k n) .nil, by simp [Value.oneCell'], rfl, hw⟩⟩

theorem Bld.bool {t : TypeId} (ht : P.underlying t = some .bool) (hc : P.cellsOf t = 1) : Bld P t 1 (fun _ b vs => vs = [.bool b]) (fun _ => True) :=
  ⟨hc, by omega, fun _ h => h, fun h _ J M hr => by
    obtain ⟨n, rfl, _⟩ := DataW.trod_bool ht h
    exact ⟨J, M, _, n, .refl _ _, hr, .cons (.bool n) .nil, by simp [Value.oneCell'], rfl, trivial⟩⟩

theorem Bld.string {t : TypeId} (ht : P.underlying t = some .string) (hc : P.cellsOf t = 1) : Bld P t 1 (fun _ s vs => vs = [.string s]) (fun s => s.size ≤ maxLen) :=
  ⟨hc, by omega, fun _ h => h, fun h _ J M hr => by
    obtain ⟨n, rfl, _, hw⟩ := DataW.trod_string ht h
    exact ⟨J, M, _, n, .refl _ _, hr, .cons (.str n) .nil, by simp [Value.oneCell'], rfl, hw⟩⟩

/-- A new row that is only read. -/
theorem RdRel.push {J : Inj} {M : Hp} {w : World} (h : RdRel J M w) {l : Loc} {ds : Array Value} {e : TypeId} {lo hi : Nat} {o : List Value} (hb : w.heap[l.b]? = some (.cells ds e (lo, hi))) (hs : ds.size = l.sz) (hl : l.sh + o.length ≤ l.sz)
    (ho : LRel J M o ((ds.toList.drop l.sh).take o.length)) (h1 : ∀ v ∈ o, v.oneCell' = true) :
    Ext J M (fun id => if id = M.length then some l else J id) (M ++ [o]) ∧ RdRel (fun id => if id = M.length then some l else J id) (M ++ [o]) w := by
  have hx : Ext J M (fun id => if id = M.length then some l else J id) (M ++ [o]) := ⟨List.prefix_append _ _, fun id hid => by show (if id = M.length then some l else J id) = J id; rw [if_neg (by omega)]⟩
  refine ⟨hx, fun id o2 ho2 => ?_, fun id id' l2 l' hne hB hl1 hl2 => ?_, fun id hid => ?_⟩
  · have hid := (List.getElem?_eq_some_iff.1 ho2).1
    rw [List.length_append, List.length_singleton] at hid
    by_cases he : id = M.length
    · subst he
      rw [List.getElem?_append_right (Nat.le_refl _), Nat.sub_self] at ho2
      cases ho2
      refine ⟨l, ds, e, lo, hi, by simp, hb, hs, hl, fun i v hv => ⟨h1 v (List.mem_of_getElem? hv), ?_⟩, fun hB => by rw [List.length_append, List.length_singleton] at hB; omega⟩
      obtain ⟨y, hy, hr⟩ := ho.get hv
      have hi2 := (List.getElem?_eq_some_iff.1 hv).1
      refine ⟨y, ?_, hr.keep hx.keep⟩
      rw [take_drop_get, if_pos hi2, Array.getElem?_toList] at hy
      exact hy
    · rw [List.getElem?_append_left (by omega)] at ho2
      obtain ⟨l2, ds2, e2, lo2, hi2, a1, a2, a3, a4, a5, _⟩ := h.row id o2 ho2
      refine ⟨l2, ds2, e2, lo2, hi2, by show (if id = M.length then some l else J id) = some l2; rw [if_neg he]; exact a1, a2, a3, a4, fun i v hv => ?_, fun hB => by rw [List.length_append, List.length_singleton] at hB; omega⟩
      obtain ⟨b1, d, b2, b3⟩ := a5 i v hv
      exact ⟨b1, d, b2, b3.keep hx.keep⟩
  · rw [List.length_append, List.length_singleton] at hB
    have hl1 : (if id = M.length then some _ else J id) = some l2 := hl1
    rw [if_neg (by omega), h.dom id (by omega)] at hl1
    cases hl1
  · rw [List.length_append, List.length_singleton] at hid
    show (if id = M.length then some l else J id) = none
    rw [if_neg (by omega)]
    exact h.dom id (by omega)

end
end Go.Proofs.Ytokicdkdllndpaa.Ev

/- Lists and records that come in by a law's parameters. -/
namespace Go.Proofs.Ytokicdkdllndpaa.Ev
set_option linter.all false
open Go Go.ChangeShapes Go.WideShapes Go.RowKit

theorem add_add (a : Addr) (m j : Nat) : (a.add m).add j = a.add (m + j) := by
  unfold Addr.add
  by_cases hm : m = 0
  · subst hm; simp
  · by_cases hj : j = 0
    · subst hj; simp [hm]
    · simp [hm, hj, Nat.add_assoc]

theorem cell_some {w : World} {a : Addr} {k : Nat} {v : Value} (h : w.cell? (a.add k) = some v) (hs : k = 0 → a.spot = none) :
    ∃ (ds : Array Value) (e : TypeId) (lo hi : Nat), w.heap[a.block]? = some (.cells ds e (lo, hi)) ∧ ds[a.off + k]? = some v := by
  have hb : (a.add k).block = a.block := by unfold Addr.add; split <;> rfl
  have ho : (a.add k).off = a.off + k := by
    unfold Addr.add
    split
    · rename_i hk; subst hk; rfl
    · rfl
  unfold World.cell? at h
  rw [hb, ho] at h
  split at h
  · rename_i c e r hc
    split at h
    · cases h
    · exact ⟨c, e, r.1, r.2, hc, h⟩
  · cases h

theorem cell_spot {w : World} {a : Addr} {v : Value} (h : w.cell? (a.add 0) = some v) : a.spot = none := by
  have : a.add 0 = a := by simp [Addr.add]
  rw [this] at h
  unfold World.cell? at h
  split at h
  · split at h
    · cases h
    · rename_i hs
      cases hsp : a.spot with
      | none => rfl
      | some x => rw [hsp] at hs; exact absurd rfl hs
  · cases h

section
variable {P : Program}

theorem Bld.slice {α : Type} {R : Hp → α → List Value → Prop} {ok : α → Prop} {t e : TypeId} {sz : Nat} (ht : P.underlying t = some (.slice e)) (hc : P.cellsOf t = 1) (he : Bld P e sz R ok) :
    Bld P t 1 (fun M l vs => ∃ v, vs = [v] ∧ Sl (R M) sz M v l) (fun l => l.length ≤ maxLen ∧ ∀ x ∈ l, ok x) := by
  refine ⟨hc, by omega, fun {M M' z vs} hp ⟨v, h1, h2⟩ => ⟨v, h1, (h2.pre hp).frame (fun a _ cs h => he.mono hp h) fun _ _ _ _ _ _ => rfl⟩, ?_⟩
  intro H enc w base held fuel cs x h hb J M hr
  rcases DataW.trod_slice ht h with ⟨rfl, _⟩ | ⟨a, len, cap, elems, rest, n, _, rfl, _, hbase, hlc, hm, hlen, hel, hre, _⟩
  · exact ⟨J, M, _, [], .refl _ _, hr, .cons .nsl .nil, by simp [Value.oneCell'], ⟨_, rfl, .inl ⟨rfl, rfl⟩⟩, by simp⟩
  · have hpos := he.pos
    have hesz := he.cells
    have hblk : Blk w := hb a len cap (by simp)
    have hread : ∀ i, i < cap → ∃ c, w.cells? base (a.add (i * sz)) sz = some c ∧ (i < len → ∃ y, DataW.trod enc P w base (fun _ => true) held n e c = some y) := fun i hi => by
      by_cases hil : i < len
      · have h1 := hel i hil
        rw [List.getElem?_eq_getElem (by omega), hesz] at h1
        obtain ⟨c, h2, h3⟩ := Option.bind_eq_some_iff.1 h1
        exact ⟨c, h2, fun _ => ⟨_, h3⟩⟩
      · obtain ⟨h1, h2⟩ := hre rfl
        have h3 := h2 (i - len) (by omega)
        rw [List.getElem?_eq_getElem (by omega), hesz, show len + (i - len) = i by omega] at h3
        obtain ⟨c, h4, h5⟩ := Option.bind_eq_some_iff.1 h3
        exact ⟨c, h4, fun h => absurd h hil⟩
    have key : ∀ m, m ≤ len → ∃ (J' : Inj) (M' : Hp) (vs rc : List Value) (z : List α), Ext J M J' M' ∧ RdRel J' M' w ∧ LRel J' M' vs rc ∧ (∀ v ∈ vs, v.oneCell' = true) ∧ vs.length = m * sz ∧
        (∀ k, k < m * sz → w.cell? (a.add k) = rc[k]?) ∧ z.length = m ∧ ∀ i x, z[i]? = some x → R M' x ((vs.drop (i * sz)).take sz) ∧ ok x := fun m => by
      induction m with
      | zero => exact fun _ => ⟨J, M, [], [], [], .refl _ _, hr, .nil, by simp, by simp, fun k hk => by omega, rfl, fun i x hx => by simp at hx⟩
      | succ m ih =>
        intro hml
        obtain ⟨J1, M1, vs1, rc1, z1, e1, r1, l1, o1, n1, c1, zl1, zr1⟩ := ih (by omega)
        obtain ⟨c, hc1, hc2⟩ := hread m (by omega)
        obtain ⟨y, hy⟩ := hc2 (by omega)
        obtain ⟨_, hcl, hcell⟩ := World.cells?_some hc1
        obtain ⟨J2, M2, vs2, z2, e2, r2, l2, o2, p2, k2⟩ := he.bld hy (fun _ _ _ _ => hblk) J1 M1 r1
        have hv2 : vs2.length = sz := by rw [l2.1, hcl]
        refine ⟨J2, M2, vs1 ++ vs2, rc1 ++ c, z1 ++ [z2], e1.trans e2, r2, (l1.keep e2.keep).append l2, fun v hv => ?_, by rw [List.length_append, n1, hv2, Nat.succ_mul], fun k hk => ?_, by simp [zl1], fun i x hx => ?_⟩
        · rcases List.mem_append.1 hv with h | h
          · exact o1 v h
          · exact o2 v h
        · have hrc : rc1.length = m * sz := by rw [← l1.1, n1]
          by_cases hkm : k < m * sz
          · rw [List.getElem?_append_left (by omega)]
            exact c1 k hkm
          · rw [Nat.succ_mul] at hk
            rw [List.getElem?_append_right (by omega), hrc, ← hcell (k - m * sz) (by omega), add_add, show m * sz + (k - m * sz) = k by omega]
        · by_cases hi : i < m
          · rw [List.getElem?_append_left (by omega)] at hx
            obtain ⟨q1, q2⟩ := zr1 i x hx
            refine ⟨?_, q2⟩
            have hle : (i + 1) * sz ≤ m * sz := Nat.mul_le_mul_right _ hi
            rw [Nat.succ_mul] at hle
            rw [List.drop_append_of_le_length (by omega), List.take_append_of_le_length (by rw [List.length_drop]; omega)]
            exact he.mono e2.1 q1
          · have hil := (List.getElem?_eq_some_iff.1 hx).1
            rw [List.length_append, List.length_singleton] at hil
            have him : i = m := by omega
            subst him
            rw [List.getElem?_append_right (by omega), zl1, Nat.sub_self] at hx
            cases hx
            refine ⟨?_, k2⟩
            rw [List.drop_append_of_le_length (by omega), List.drop_of_length_le (by omega), List.nil_append, List.take_of_length_le (by omega)]
            exact p2
    obtain ⟨J1, M1, vs, rc, z, e1, r1, l1, o1, n1, c1, zl, zr⟩ := key len (Nat.le_refl _)
    have fin : ∀ (l : Loc) (ds : Array Value) (e' : TypeId) (lo hi : Nat), w.heap[l.b]? = some (.cells ds e' (lo, hi)) → ds.size = l.sz → l.sh + vs.length ≤ l.sz → LRel J1 M1 vs ((ds.toList.drop l.sh).take vs.length) →
        ((len = 0 ∧ cap = 0) ∨ (a = ⟨l.b, l.sh + 0, none⟩ ∧ l.sh + 0 + cap * sz ≤ l.sz)) →
        ∃ (J' : Inj) (M' : Hp) (vs : List Value) (z : List α), Ext J M J' M' ∧ RdRel J' M' w ∧ LRel J' M' vs [.slice (some a) len cap] ∧ (∀ v ∈ vs, v.oneCell' = true) ∧ (∃ v, vs = [v] ∧ Sl (R M') sz M' v z) ∧ (z.length ≤ maxLen ∧ ∀ x ∈ z, ok x) := fun l ds e' lo hi h1 h2 h3 h4 h5 => by
      obtain ⟨x1, x2⟩ := r1.push h1 h2 h3 h4 o1
      refine ⟨_, _, [.slice (some ⟨M1.length, 0, some sz⟩) len (len * sz)], z, e1.trans x1, x2, .cons (.sl _ _ _ _ _ vs a cap (by simp) (by omega) hlc (Nat.mul_le_mul_right _ hlc) fun _ => ⟨l, by simp, h5⟩) .nil, by simp [Value.oneCell'], ⟨_, rfl, ?_⟩, by omega, fun y hy => ?_⟩
      · refine .inr ⟨M1.length, 0, len * sz, vs, by rw [zl], by simp, by omega, by rw [zl]; omega, by unfold maxLen at hm; omega, fun i y hy => ?_⟩
        rw [Nat.zero_add]
        exact he.mono x1.1 (zr i y hy).1
      · obtain ⟨i, hi⟩ := List.getElem?_of_mem hy
        exact (zr i y hi).2
    by_cases hcap : cap = 0
    · have hl0 : len = 0 := by omega
      obtain ⟨b, ds, e', lo, hi, hbk⟩ := hblk
      have hv0 : vs = [] := List.eq_nil_of_length_eq_zero (by rw [n1, hl0]; omega)
      refine fin ⟨b, 0, ds.size⟩ ds e' lo hi hbk rfl (by rw [hv0]; simp) ?_ (.inl ⟨hl0, hcap⟩)
      rw [hv0]
      exact ⟨by simp, fun i x y hx => by simp at hx⟩
    · obtain ⟨c0, hc0, _⟩ := hread 0 (by omega)
      obtain ⟨_, hcl0, hcell0⟩ := World.cells?_some hc0
      have q0 := hcell0 0 hpos
      rw [add_add, Nat.zero_mul, Nat.zero_add, List.getElem?_eq_getElem (by omega)] at q0
      have hspot := cell_spot q0
      obtain ⟨ds, e', lo, hi, hbk, _⟩ := cell_some q0 fun _ => hspot
      have hcells : ∀ k v, w.cell? (a.add k) = some v → ds[a.off + k]? = some v := fun k v hv => by
        obtain ⟨ds2, e2, lo2, hi2, hb2, hd2⟩ := cell_some hv fun _ => hspot
        rw [hbk] at hb2
        cases hb2
        exact hd2
      obtain ⟨c9, hc9, _⟩ := hread (cap - 1) (by omega)
      obtain ⟨_, hcl9, hcell9⟩ := World.cells?_some hc9
      have q9 := hcell9 (sz - 1) (by omega)
      rw [add_add, List.getElem?_eq_getElem (by omega)] at q9
      have hsz9 := (Array.getElem?_eq_some_iff.1 (hcells _ _ q9)).1
      have hmul : (cap - 1) * sz + sz = cap * sz := by
        rw [← Nat.succ_mul]
        congr 1
        omega
      have hlm : len * sz ≤ cap * sz := Nat.mul_le_mul_right _ hlc
      refine fin ⟨a.block, a.off, ds.size⟩ ds e' lo hi hbk rfl (by simp only; omega) ⟨?_, fun i x y hx hy => ?_⟩ (.inr ⟨?_, by simp only; omega⟩)
      · rw [List.length_take, List.length_drop, Array.length_toList]
        show vs.length = min vs.length (ds.size - a.off)
        omega
      · have hi2 := (List.getElem?_eq_some_iff.1 hx).1
        obtain ⟨y2, hy2, hr2⟩ := l1.get hx
        have := c1 i (by omega)
        rw [hy2] at this
        have h3 := hcells _ _ this
        rw [take_drop_get, if_pos hi2, Array.getElem?_toList, h3] at hy
        cases hy
        exact hr2
      · cases a
        simp only at hspot
        subst hspot
        rfl

/-- Fields in line, from an offset on. -/
structure SeqB {α : Type} (P : Program) (sz : Nat) (R : Hp → α → List Value → Prop) (ok : α → Prop) (fs : List (TypeId × Nat)) (off : Nat) : Prop where
  pos : 0 < sz
  mono : ∀ {M M' : Hp} {z : α} {vs : List Value}, M <+: M' → R M z vs → R M' z vs
  bld : ∀ {H : Type} {enc : TypeId × Value → H} {w : World} {base : Nat} {held : Bool} {fuel : Nat} {cs : List Value}, cs.length = off + sz →
    (∀ f, f ∈ fs → ∃ y, DataW.trod enc P w base (fun _ => true) held fuel f.1 ((cs.drop f.2).take (P.cellsOf f.1)) = some y) → (∀ a l c, .slice (some a) l c ∈ cs → Blk w) → ∀ (J : Inj) (M : Hp), RdRel J M w →
    ∃ (J' : Inj) (M' : Hp) (vs : List Value) (z : α), Ext J M J' M' ∧ RdRel J' M' w ∧ LRel J' M' vs (cs.drop off) ∧ (∀ v ∈ vs, v.oneCell' = true) ∧ R M' z vs ∧ ok z

theorem SeqB.one {α : Type} {R : Hp → α → List Value → Prop} {ok : α → Prop} {t : TypeId} {sz off : Nat} (h : Bld P t sz R ok) : SeqB P sz R ok [(t, off)] off :=
  ⟨h.pos, h.mono, fun {H enc w base held fuel cs} hl hf hb J M hr => by
    obtain ⟨y, hy⟩ := hf (t, off) (by simp)
    have e : (cs.drop off).take (P.cellsOf t) = cs.drop off := List.take_of_length_le (by rw [List.length_drop, h.cells]; omega)
    simp only [e] at hy
    exact h.bld hy (fun a l c hm => hb a l c (List.mem_of_mem_drop hm)) J M hr⟩

theorem SeqB.cons {α β : Type} {R1 : Hp → α → List Value → Prop} {R2 : Hp → β → List Value → Prop} {ok1 : α → Prop} {ok2 : β → Prop} {t : TypeId} {s1 s2 off off' : Nat} {fs : List (TypeId × Nat)} (h : Bld P t s1 R1 ok1) (ho : off' = off + s1) (hs : SeqB P s2 R2 ok2 fs off') :
    SeqB P (s1 + s2) (fun M (x : α × β) vs => ∃ u v, vs = u ++ v ∧ R1 M x.1 u ∧ R2 M x.2 v) (fun x => ok1 x.1 ∧ ok2 x.2) ((t, off) :: fs) off := by
  refine ⟨by have := h.pos; omega, fun {M M' z vs} hp ⟨u, v, e, a, b⟩ => ⟨u, v, e, h.mono hp a, hs.mono hp b⟩, ?_⟩
  intro H enc w base held fuel cs hl hf hb J M hr
  obtain ⟨y, hy⟩ := hf (t, off) (by simp)
  have hl' : cs.length = off + (s1 + s2) := hl
  obtain ⟨J1, M1, vs1, z1, e1, r1, l1, o1, p1, k1⟩ := h.bld hy (fun a l c hm => hb a l c (List.mem_of_mem_drop (List.mem_of_mem_take hm))) J M hr
  obtain ⟨J2, M2, vs2, z2, e2, r2, l2, o2, p2, k2⟩ := hs.bld (by rw [ho]; omega) (fun f hff => hf f (List.mem_cons_of_mem _ hff)) hb J1 M1 r1
  refine ⟨J2, M2, vs1 ++ vs2, (z1, z2), e1.trans e2, r2, ?_, fun v hv => ?_, ⟨vs1, vs2, rfl, h.mono e2.1 p1, p2⟩, k1, k2⟩
  · have := (l1.keep e2.keep).append l2
    rw [h.cells, ho, ← List.drop_drop, List.take_append_drop] at this
    exact this
  · rcases List.mem_append.1 hv with hm | hm
    · exact o1 v hm
    · exact o2 v hm

theorem Bld.struct {α : Type} {R : Hp → α → List Value → Prop} {ok : α → Prop} {t : TypeId} {sz : Nat} {fs : Array Field} (ht : P.underlying t = some (.struct fs)) (hc : P.cellsOf t = sz) (hs : SeqB P sz R ok (fs.toList.map fun f => (f.type, f.offset)) 0) : Bld P t sz R ok := by
  refine ⟨hc, hs.pos, hs.mono, fun {H enc w base held fuel cs x} h hb J M hr => ?_⟩
  obtain ⟨xs, n, _, _, hl, hxl, hx⟩ := DataW.trod_struct ht h
  have := hs.bld (enc := enc) (w := w) (base := base) (held := held) (fuel := n) (cs := cs) (by rw [hl, hc]; omega) (fun y hy => by
    obtain ⟨fl, hfl, rfl⟩ := List.mem_map.1 hy
    obtain ⟨i, hi⟩ := List.getElem?_of_mem hfl
    have hi' : fs[i]? = some fl := by rw [← hi]; simp
    have := hx i fl hi'
    have hlt : i < xs.length := by
      have := (List.getElem?_eq_some_iff.1 hi).1
      simp at this
      omega
    rw [List.getElem?_eq_getElem hlt] at this
    exact ⟨_, this⟩) hb J M hr
  simpa using this

theorem Bld.conv {α β : Type} {R : Hp → α → List Value → Prop} {R' : Hp → β → List Value → Prop} {ok : α → Prop} {ok' : β → Prop} {t : TypeId} {sz : Nat} (h : Bld P t sz R ok) (f : α → β) (hR : ∀ M z vs, R M z vs → R' M (f z) vs) (hm : ∀ {M M' : Hp} {z : β} {vs : List Value}, M <+: M' → R' M z vs → R' M' z vs) (hk : ∀ z, ok z → ok' (f z)) : Bld P t sz R' ok' :=
  ⟨h.cells, h.pos, hm, fun ht hb J M hr => by
    obtain ⟨J', M', vs, z, a1, a2, a3, a4, a5, a6⟩ := h.bld ht hb J M hr
    exact ⟨J', M', vs, f z, a1, a2, a3, a4, hR _ _ _ a5, hk _ a6⟩⟩

end
end Go.Proofs.Ytokicdkdllndpaa.Ev

/- A law's parameters, one by one, and the whole of it. -/
namespace Go.Proofs.Ytokicdkdllndpaa.Ev
set_option linter.all false
open Go Go.ChangeShapes Go.WideShapes Go.RowKit

structure ArgB {α : Type} (P : Program) (t : TypeId) (V : Hp → α → Value → Prop) (ok : α → Prop) : Prop where
  mono : ∀ {M M' : Hp} {z : α} {v : Value}, M <+: M' → V M z v → V M' z v
  arg : ∀ {H : Type} {enc : TypeId × Value → H} {w : World} {v : Value} {D : DataW H} {ps : List MemPlace} {base : Nat}, DataW.Trod enc P w 0 (fun _ => true) true t v D ps → Value.okWide P w .any base t v → ∀ (J : Inj) (M : Hp), RdRel J M w →
    ∃ (J' : Inj) (M' : Hp) (u : Value) (z : α), Ext J M J' M' ∧ RdRel J' M' w ∧ VRel J' M' u v ∧ V M' z u ∧ ok z

section
variable {P : Program}

theorem blk_of_shape {w : World} {r : Nat} {x : TypeId × Nat} (h : w.shape? r = some x) : Blk w := by
  unfold World.shape? at h
  split at h
  · rename_i c e q hc
    exact ⟨r, c, e, q.1, q.2, hc⟩
  · cases h

theorem cell_blk {w : World} {r : Reach} {base : Nat} {t : TypeId} {a : Addr} {l c : Nat} (h : Cell.okWide P w r base t (.slice (some a) l c)) : Blk w := by
  unfold Cell.okWide at h
  have h2 : Cell.ok P w r base t (.slice (some a) l c) := by
    revert h
    cases P.underlying t with
    | none => exact fun h => h
    | some d => cases d <;> exact fun h => h
  unfold Cell.ok at h2
  revert h2
  cases P.underlying t with
  | none => exact fun h => h.elim
  | some d => cases d <;> first | exact fun h => h.elim | exact fun h => by obtain ⟨_, _, _, _, row, cells, hs, _⟩ := h; exact blk_of_shape hs

theorem ArgB.one {α : Type} {R : Hp → α → List Value → Prop} {ok : α → Prop} {t : TypeId} (h : Bld P t 1 R ok) (hk : ∀ {w : World} {r : Reach} {base : Nat} {v : Value}, Value.okWide P w r base t v → v.cells = #[v] ∧ Cell.okWide P w r base t v) :
    ArgB P t (fun M z v => R M z [v]) ok :=
  ⟨h.mono, fun {H enc w v D ps base} hT hv J M hr => by
    obtain ⟨fuel, hf⟩ := hT
    obtain ⟨hc, hcell⟩ := hk hv
    rw [hc] at hf
    obtain ⟨J', M', vs, z, a1, a2, a3, a4, a5, a6⟩ := h.bld hf (fun a l c hm => by
      have h9 : Value.slice (some a) l c = v := by simpa using hm
      rw [← h9] at hcell
      exact cell_blk hcell) J M hr
    obtain ⟨u, rfl⟩ : ∃ u, vs = [u] := by
      have := a3.1
      cases vs with
      | nil => simp at this
      | cons y l => cases l with
        | nil => exact ⟨y, rfl⟩
        | cons z l => simp at this
    exact ⟨J', M', u, z, a1, a2, a3.2 0 u v rfl rfl, a5, a6⟩⟩

theorem ArgB.slice {α : Type} {R : Hp → α → List Value → Prop} {ok : α → Prop} {t e : TypeId} {sz : Nat} (ht : P.underlying t = some (.slice e)) (hc : P.cellsOf t = 1) (he : Bld P e sz R ok) :
    ArgB P t (fun M l v => Sl (R M) sz M v l) (fun l => l.length ≤ maxLen ∧ ∀ x ∈ l, ok x) := by
  have h := ArgB.one (Bld.slice ht hc he) (fun {w r base v} hv => by
    obtain ⟨a, len, cap, rfl⟩ := okWide_slice ht hv
    exact ⟨rfl, by unfold Value.okWide at hv; rw [ht] at hv; exact hv⟩)
  exact ⟨fun hp hs => by
    obtain ⟨v, e, h2⟩ := h.mono hp ⟨_, rfl, hs⟩
    cases e
    exact h2, fun hT hv J M hr => by
    obtain ⟨J', M', u, z, a1, a2, a3, ⟨v, e, h2⟩, a5⟩ := h.arg hT hv J M hr
    cases e
    exact ⟨J', M', u, z, a1, a2, a3, h2, a5⟩⟩

theorem ArgB.int {k : IntKind} {t : TypeId} (ht : P.underlying t = some (.int k)) (hc : P.cellsOf t = 1) : ArgB P t (fun _ n v => v = .int k n) (fun n => (Lit.int k n).wf = true) := by
  have h := ArgB.one (Bld.int ht hc) (fun {w r base v} hv => by
    obtain ⟨n, rfl⟩ := okWide_int ht hv
    exact ⟨rfl, by unfold Value.okWide at hv; rw [ht] at hv; exact hv⟩)
  exact ⟨fun _ h => h, fun hT hv J M hr => by
    obtain ⟨J', M', u, z, a1, a2, a3, a4, a5⟩ := h.arg hT hv J M hr
    exact ⟨J', M', u, z, a1, a2, a3, by simpa using a4, a5⟩⟩

theorem ArgB.bool {t : TypeId} (ht : P.underlying t = some .bool) (hc : P.cellsOf t = 1) : ArgB P t (fun _ b v => v = .bool b) (fun _ => True) := by
  have h := ArgB.one (Bld.bool ht hc) (fun {w r base v} hv => by
    obtain ⟨n, rfl⟩ := okWide_bool ht hv
    exact ⟨rfl, by unfold Value.okWide at hv; rw [ht] at hv; exact hv⟩)
  exact ⟨fun _ h => h, fun hT hv J M hr => by
    obtain ⟨J', M', u, z, a1, a2, a3, a4, a5⟩ := h.arg hT hv J M hr
    exact ⟨J', M', u, z, a1, a2, a3, by simpa using a4, a5⟩⟩

theorem ArgB.string {t : TypeId} (ht : P.underlying t = some .string) (hc : P.cellsOf t = 1) : ArgB P t (fun _ s v => v = .string s) (fun s => s.size ≤ maxLen) := by
  have h := ArgB.one (Bld.string ht hc) (fun {w r base v} hv => by
    obtain ⟨n, rfl⟩ := okWide_string ht hv
    exact ⟨rfl, by unfold Value.okWide at hv; rw [ht] at hv; exact hv⟩)
  exact ⟨fun _ h => h, fun hT hv J M hr => by
    obtain ⟨J', M', u, z, a1, a2, a3, a4, a5⟩ := h.arg hT hv J M hr
    exact ⟨J', M', u, z, a1, a2, a3, by simpa using a4, a5⟩⟩

theorem ArgB.struct {α : Type} {R : Hp → α → List Value → Prop} {ok : α → Prop} {t : TypeId} {sz : Nat} {fs : Array Field} (ht : P.underlying t = some (.struct fs)) (h : Bld P t sz R ok) :
    ArgB P t (fun M z v => ∃ vs, v = .agg vs ∧ R M z vs.toList) ok :=
  ⟨fun hp ⟨vs, e, hR⟩ => ⟨vs, e, h.mono hp hR⟩, fun {H enc w v D ps base} hT hv J M hr => by
    obtain ⟨fuel, hf⟩ := hT
    have hv2 := hv
    unfold Value.okWide at hv2
    rw [ht] at hv2
    obtain ⟨cs, rfl, hsz, ts, _, _, hcs⟩ := hv2
    obtain ⟨J', M', vs, z, a1, a2, a3, a4, a5, a6⟩ := h.bld hf (fun a l c hm => by
      obtain ⟨i, hi⟩ := List.getElem?_of_mem hm
      obtain ⟨u, _, hok⟩ := hcs i _ (by simpa [Value.cells] using hi)
      exact cell_blk hok) J M hr
    refine ⟨J', M', .agg vs.toArray, z, a1, a2, ?_, ⟨vs.toArray, rfl, a5⟩, a6⟩
    have hl := a3.1
    refine .agg _ _ (by simpa [Value.cells] using hl) (fun i x hx => a4 x (List.mem_of_getElem? (by simpa using hx))) fun i x y hx hy => a3.2 i x y (by simpa using hx) (by simpa [Value.cells] using hy)⟩

/-- The small machine's answer is Go's. -/
theorem law_run {E : Env} {hv : Nat → Nat → Bool} {J : Inj} {M : Hp} {w : World} {vs : List Value} {cs : Array Value} {f : Nat} (hmix : P.follows .mixedOrders = true) (hE : E.fns = fnsOf P hv) (hp : ∀ f, E.prim f = none) (hr : RdRel J M w) (hl : LRel J M vs cs.toList)
    (h : Fun E { wr := fun id => decide (M.length ≤ id), nr := false } f vs M fun r _ => r = .bool true) : Calls P f cs w fun e w' => e = .returned (.bool true) ∧ Below w.heap.size w w' := by
  obtain ⟨k, r, H', h1, rfl⟩ := h
  exact law_calls hmix hE (fun f p h => by rw [hp] at h; cases h) (fun f p h => by rw [hp] at h; cases h) h1 hr hl

end
end Go.Proofs.Ytokicdkdllndpaa.Ev

/- Growing a slice of one's own. -/
namespace Go.Proofs.Ytokicdkdllndpaa.Ev
set_option linter.all false
open Go

section
variable {m : Md} {α : Type} {R : α → List Value → Prop} {esz : Nat} {H : Hp} {v : Value} {l : List α}

theorem Sl.app {N n bytes : Nat} {l2 : List α} {cs : List Value} (h : Sl R esz H v l) (ho : OwnS N v) (hN : N ≤ H.length) (hw : ∀ id, N ≤ id → m.wr id = true) (hnr : m.nr = true → cs.all scal = true) (hpos : 0 < l2.length) (hcs : cs.length = l2.length * esz)
    (hr : ∀ (i : Nat) a, l2[i]? = some a → R a ((cs.drop (i * esz)).take esz)) (hb : (l.length + l2.length) * bytes ≤ Ev.room) (hb2 : l.length + l2.length ≤ Ev.room) :
    ∃ v' H', (∀ (s : St) (x y : X), s.H = H → exv s.ρ x = some v → srcOf H esz (ex s.ρ y) = some (l2.length, cs) → appK m s esz bytes x y = some (.val v', { s with H := H' })) ∧ Sl R esz H' v' (l ++ l2) ∧ OwnS N v' ∧
      (∀ j, j < H.length → j ∉ idsOf v → H'[j]? = H[j]?) ∧ H.length ≤ H'.length ∧ (∀ j ∈ idsOf v', j ∈ idsOf v ∨ H.length ≤ j) ∧ ∀ H0 : Hp, H0.length ≤ N → H0 <+: H → H0 <+: H' := by
  have hb3 : l.length + l2.length ≤ 9223372036854775807 := by unfold Ev.room at hb2; omega
  rcases ho with rfl | ⟨id, e, ln, cap, rfl, hid⟩
  · have hl : l = [] := by
      rcases h with ⟨_, h⟩ | ⟨_, _, _, _, h, _⟩
      · exact h
      · cases h
    subst hl
    simp only [List.length_nil, Nat.zero_add] at hb hb2 hb3
    refine ⟨.slice (some ⟨H.length, 0, some esz⟩) l2.length (l2.length * esz), H ++ [cs], fun s x y hH hx hy => ?_, .inr ⟨H.length, 0, l2.length * esz, cs, by simp, by simp, by omega, by simp, by simpa using hb3, fun i a hi => ?_⟩,
      .inr ⟨_, _, _, _, rfl, hN⟩, fun j hj _ => by rw [List.getElem?_append_left hj], by simp, fun j hj => ?_, fun H0 _ hp => pre_push hp⟩
    · unfold appK
      rw [hx, hH, hy]
      simp only
      rw [if_neg (by omega), if_pos ⟨hb, hb2⟩]
    · rw [Nat.zero_add]
      exact hr i a (by simpa using hi)
    · simp [idsOf] at hj
      exact .inr (by omega)
  · rcases h with ⟨h, _⟩ | ⟨id', off, cap', o, h, hg, hoc, hlc, hroom, hrr⟩
    · cases h
    cases h
    have hidl := (List.getElem?_eq_some_iff.1 hg).1
    have hwid := hw id hid
    have hold : ∀ (q : List Value), (∀ k, k < l.length * esz → q[k]? = o[k]?) → ∀ (i : Nat) a, l[i]? = some a → R a ((q.drop (0 + i * esz)).take esz) := fun q hq i a hi => by
      have hil := (List.getElem?_eq_some_iff.1 hi).1
      have hm : (i + 1) * esz ≤ l.length * esz := Nat.mul_le_mul_right _ hil
      rw [Nat.succ_mul] at hm
      have : (q.drop (0 + i * esz)).take esz = (o.drop (0 + i * esz)).take esz := by
        refine List.ext_getElem? fun k => ?_
        rw [take_drop_get, take_drop_get]
        by_cases hk : k < esz
        · rw [if_pos hk, if_pos hk, hq _ (by omega)]
        · rw [if_neg hk, if_neg hk]
      rw [this]
      exact hrr i a hi
    have hnew : ∀ (q : List Value), (∀ k, k < cs.length → q[l.length * esz + k]? = cs[k]?) → ∀ (i : Nat) a, l2[i]? = some a → R a ((q.drop (0 + (l.length + i) * esz)).take esz) := fun q hq i a hi => by
      have hil := (List.getElem?_eq_some_iff.1 hi).1
      have hm : (i + 1) * esz ≤ l2.length * esz := Nat.mul_le_mul_right _ hil
      rw [Nat.succ_mul] at hm
      have : (q.drop (0 + (l.length + i) * esz)).take esz = (cs.drop (i * esz)).take esz := by
        refine List.ext_getElem? fun k => ?_
        rw [take_drop_get, take_drop_get]
        by_cases hk : k < esz
        · rw [if_pos hk, if_pos hk, Nat.zero_add, Nat.add_mul, Nat.add_assoc, hq _ (by omega)]
        · rw [if_neg hk, if_neg hk]
      rw [this]
      exact hr i a hi
    have both : ∀ (q : List Value), (∀ k, k < l.length * esz → q[k]? = o[k]?) → (∀ k, k < cs.length → q[l.length * esz + k]? = cs[k]?) → ∀ (i : Nat) a, (l ++ l2)[i]? = some a → R a ((q.drop (0 + i * esz)).take esz) := fun q h1 h2 i a hi => by
      by_cases hil : i < l.length
      · rw [List.getElem?_append_left hil] at hi
        exact hold q h1 i a hi
      · rw [List.getElem?_append_right (by omega)] at hi
        have := hnew q h2 _ a hi
        rw [show l.length + (i - l.length) = i by omega] at this
        exact this
    by_cases hfit : (l.length + l2.length) * esz ≤ cap
    · have hfit' : l.length * esz + cs.length ≤ cap := by rw [hcs, ← Nat.add_mul]; exact hfit
      refine ⟨.slice (some ⟨id, 0, some esz⟩) (l.length + l2.length) cap, H.set id (spl o (0 + l.length * esz) cs), fun s x y hH hx hy => ?_, .inr ⟨id, 0, cap, _, by rw [List.length_append], by rw [List.getElem?_set_self hidl], by rw [spl_length]; exact hoc, by rw [List.length_append]; exact hfit, by rw [List.length_append]; exact hb3,
        both _ (fun k hk => ?_) (fun k hk => ?_)⟩, .inr ⟨_, _, _, _, rfl, hid⟩, fun j hj hne => ?_, by simp, fun j hj => .inl hj, fun H0 h0 hp => pre_set hp (by omega)⟩
      · unfold appK
        rw [hx, hH, hy]
        simp only
        rw [if_neg (by omega), hg]
        simp only
        rw [if_pos ⟨trivial, hoc, hwid, hnr⟩, if_pos hfit]
      · rw [spl_get, if_neg (by omega)]
      · rw [spl_get, if_pos (by omega), if_pos (by omega)]
        congr 1
        omega
      · rw [List.getElem?_set_ne]
        simp [idsOf] at hne
        omega
    · have htl : (o.take (l.length * esz)).length = l.length * esz := by rw [List.length_take]; omega
      refine ⟨.slice (some ⟨id, 0, some esz⟩) (l.length + l2.length) ((l.length + l2.length) * esz), H.set id (o.take (l.length * esz) ++ cs), fun s x y hH hx hy => ?_, .inr ⟨id, 0, _, _, by rw [List.length_append], by rw [List.getElem?_set_self hidl], by rw [List.length_append, htl, hcs, ← Nat.add_mul, Nat.zero_add], by rw [List.length_append]; exact Nat.le_refl _, by rw [List.length_append]; exact hb3,
        both _ (fun k hk => ?_) (fun k hk => ?_)⟩, .inr ⟨_, _, _, _, rfl, hid⟩, fun j hj hne => ?_, by simp, fun j hj => .inl hj, fun H0 h0 hp => pre_set hp (by omega)⟩
      · unfold appK
        rw [hx, hH, hy]
        simp only
        rw [if_neg (by omega), hg]
        simp only
        rw [if_pos ⟨trivial, hoc, hwid, hnr⟩, if_neg hfit, if_pos ⟨trivial, by omega, hb, hb2⟩]
      · rw [List.getElem?_append_left (by omega), List.getElem?_take, if_pos hk]
      · rw [List.getElem?_append_right (by omega), htl, show l.length * esz + k - l.length * esz = k by omega]
      · rw [List.getElem?_set_ne]
        simp [idsOf] at hne
        omega

theorem Sl.src (h : Sl R esz H v l) : ∃ cs, srcOf H esz (.val v) = some (l.length, cs) ∧ cs.length = l.length * esz ∧ ∀ (i : Nat) a, l[i]? = some a → R a ((cs.drop (i * esz)).take esz) := by
  rcases h with ⟨rfl, rfl⟩ | ⟨id, off, cap, o, rfl, hg, hoc, hlc, hroom, hrr⟩
  · exact ⟨[], rfl, by simp, fun i a hi => by simp at hi⟩
  · refine ⟨(o.drop off).take (l.length * esz), ?_, by rw [List.length_take, List.length_drop]; omega, fun i a hi => ?_⟩
    · simp only [srcOf, rowOf, hg]
      rw [if_pos hoc]
      simp only
      rw [if_pos ⟨trivial, by omega⟩]
    · have hil := (List.getElem?_eq_some_iff.1 hi).1
      have hm : (i + 1) * esz ≤ l.length * esz := Nat.mul_le_mul_right _ hil
      rw [Nat.succ_mul] at hm
      have : (((o.drop off).take (l.length * esz)).drop (i * esz)).take esz = (o.drop (off + i * esz)).take esz := by
        refine List.ext_getElem? fun k => ?_
        rw [take_drop_get ((o.drop off).take (l.length * esz)) (i * esz) esz k, take_drop_get o (off + i * esz) esz k]
        by_cases hk : k < esz
        · rw [if_pos hk, if_pos hk, take_drop_get, if_pos (by omega), Nat.add_assoc]
        · rw [if_neg hk, if_neg hk]
      rw [this]
      exact hrr i a hi

theorem Sl.copy {bytes : Nat} (h : Sl R esz H v l) (hb : l.length * bytes ≤ Ev.room) (hb2 : l.length ≤ Ev.room) :
    ∃ v' H', (∀ (s : St) (x y : X), s.H = H → exv s.ρ x = some (.slice none 0 0) → ex s.ρ y = .val v → appK m s esz bytes x y = some (.val v', { s with H := H' })) ∧ H <+: H' ∧ Sl R esz H' v' l ∧ OwnS H.length v' := by
  obtain ⟨cs, h1, h2, h3⟩ := h.src
  by_cases h0 : l.length = 0
  · have hl : l = [] := List.eq_nil_of_length_eq_zero h0
    subst hl
    refine ⟨.slice none 0 0, H, fun s x y hH hx hy => ?_, List.prefix_refl _, .inl ⟨rfl, rfl⟩, .inl rfl⟩
    subst hH
    unfold appK
    rw [hx, hy, h1]
    rfl
  · refine ⟨.slice (some ⟨H.length, 0, some esz⟩) l.length (l.length * esz), H ++ [cs], fun s x y hH hx hy => ?_, List.prefix_append _ _, .inr ⟨H.length, 0, l.length * esz, cs, rfl, by simp, by omega, Nat.le_refl _, by unfold Ev.room at hb2; omega, fun i a hi => ?_⟩, .inr ⟨_, _, _, _, rfl, Nat.le_refl _⟩⟩
    · unfold appK
      rw [hx, hH, hy, h1]
      simp only
      rw [if_neg h0, if_pos ⟨hb, hb2⟩]
    · rw [Nat.zero_add]
      exact h3 i a hi

end
end Go.Proofs.Ytokicdkdllndpaa.Ev

/- slices.Sort of whole numbers, by its contract off the kit's shelf. -/
namespace Go.Proofs.Ytokicdkdllndpaa.Ev
set_option linter.all false
open Go

end Go.Proofs.Ytokicdkdllndpaa.Ev

/- Functions that are told by themselves: the calls, and the law's row. -/
namespace Go.Proofs.Ytokicdkdllndpaa.Ev
set_option linter.all false
open Go RowKit

theorem Fun.prim {E : Env} {m : Md} {f : Nat} {vs : List Value} {H H' : Hp} {r : Value} {p : Md → List Value → Hp → Option (Value × Hp)} {Q : Value → Hp → Prop} (hp : E.prim f = some p) (h : p m vs H = some (r, H')) (hq : Q r H') : Fun E m f vs H Q :=
  ⟨1, r, H', by rw [evF, hp]; exact h, hq⟩

end Go.Proofs.Ytokicdkdllndpaa.Ev

/- Numbers that rise: plain. -/
namespace Go.Proofs.Ytokicdkdllndpaa.Ev
set_option linter.all false
open Go

end Go.Proofs.Ytokicdkdllndpaa.Ev

/- The rest of a slice; what lies behind a place, cleared. -/
namespace Go.Proofs.Ytokicdkdllndpaa.Ev
set_option linter.all false
open Go

section
variable {m : Md} {α : Type} {R : α → List Value → Prop} {esz : Nat} {H : Hp} {v : Value} {l : List α}

theorem Sl.drop (h : Sl R esz H v l) {i : Nat} (hi : i ≤ l.length) : ∃ v', (∀ (s : St) (x y : X), exv s.ρ x = some v → exv s.ρ y = some (.int .i64 i) → slcK s esz x (some y) none = some (.val v', s)) ∧
    (∀ j ∈ idsOf v', j ∈ idsOf v) ∧ ∀ (H' : Hp) (l' : List α), l'.length = l.length → Sl R esz H' v l' → Sl R esz H' v' (l'.drop i) := by
  rcases h with ⟨rfl, rfl⟩ | ⟨id, off, cap, o, rfl, ho, hc, hn, hrm, hr⟩
  · simp at hi
    subst hi
    refine ⟨.slice none 0 0, fun s x y hx hy => ?_, fun j hj => hj, fun H' l' hl h => by rw [List.eq_nil_of_length_eq_zero hl] at h ⊢; exact h⟩
    simp only [slcK, bnd, hx, hy]
    rfl
  · have hm : i * esz ≤ l.length * esz := Nat.mul_le_mul_right _ hi
    refine ⟨.slice (some ⟨id, off + i * esz, some esz⟩) (l.length - i) (cap - i * esz), fun s x y hx hy => ?_, fun j hj => hj, fun H' l' hl h => ?_⟩
    · simp only [slcK, bnd, hx, hy]
      rw [if_pos ⟨trivial, by omega, by omega, .inl (by omega), by simp; omega⟩]
      simp [St.val]
    · rcases h with ⟨h, _⟩ | ⟨id', off', cap', o', h, ho', hc', hn', hrm', hr'⟩
      · cases h
      · rw [← hl] at h
        cases h
        have hm' : i * esz ≤ l'.length * esz := Nat.mul_le_mul_right _ (by omega)
        refine .inr ⟨id, off + i * esz, cap - i * esz, o', by rw [List.length_drop, hl], ho', by omega, ?_, by rw [List.length_drop]; omega, fun j a hj => ?_⟩
        · rw [List.length_drop, Nat.sub_mul]; omega
        · rw [List.getElem?_drop] at hj
          have := hr' _ a hj
          rw [show off + i * esz + j * esz = off + (i + j) * esz by rw [Nat.add_mul]; omega]
          exact this

theorem Sl.cut (h : Sl R esz H v l) {i : Nat} (hi : i ≤ l.length) {zero : List Value} (hz : zero.length = esz) (hzs : zero.all scal = true) (hw : ∀ id ∈ idsOf v, m.wr id = true) : ∃ v3 v2 H', (∀ (s : St) (x y : X), exv s.ρ x = some v → exv s.ρ y = some (.int .i64 i) → slcK s esz x (some y) none = some (.val v3, s)) ∧
    (∀ (s : St) (x : X), s.H = H → exv s.ρ x = some v3 → clrK m s esz zero x = some (.val (.tuple #[]), { s with H := H' })) ∧
    (∀ (s : St) (x y : X), exv s.ρ x = some v → exv s.ρ y = some (.int .i64 i) → slcK s esz x none (some y) = some (.val v2, s)) ∧ Sl R esz H' v2 (l.take i) ∧ (∀ N, OwnS N v → OwnS N v2) ∧ (∀ j, j ∉ idsOf v → H'[j]? = H[j]?) ∧ H'.length = H.length ∧ ∀ j ∈ idsOf v2, j ∈ idsOf v := by
  rcases h with ⟨rfl, rfl⟩ | ⟨id, off, cap, o, rfl, ho, hc, hn, hrm, hr⟩
  · simp at hi
    subst hi
    refine ⟨.slice none 0 0, .slice none 0 0, H, fun s x y hx hy => ?_, fun s x hH hx => ?_, fun s x y hx hy => ?_, .inl ⟨rfl, by simp⟩, fun N h => h, fun _ _ => rfl, rfl, fun j hj => hj⟩
    · simp only [slcK, bnd, hx, hy]
      rfl
    · subst hH
      simp only [clrK, hx]
      rfl
    · simp only [slcK, bnd, hx, hy]
      rfl
  · have hm : i * esz ≤ l.length * esz := Nat.mul_le_mul_right _ hi
    have hidl := (List.getElem?_eq_some_iff.1 ho).1
    refine ⟨.slice (some ⟨id, off + i * esz, some esz⟩) (l.length - i) (cap - i * esz), .slice (some ⟨id, off, some esz⟩) i cap, H.set id (spl o (off + i * esz) (zeros (l.length - i) zero)), fun s x y hx hy => ?_, fun s x hH hx => ?_, fun s x y hx hy => ?_, .inr ⟨id, off, cap, _, by rw [List.length_take, Nat.min_eq_left hi], List.getElem?_set_self hidl, by rw [spl_length]; exact hc, by rw [List.length_take, Nat.min_eq_left hi]; omega, by rw [List.length_take]; omega, fun j a hj => ?_⟩, fun N h => ?_, fun j hj => ?_, by simp, fun j hj => hj⟩
    · simp only [slcK, bnd, hx, hy]
      rw [if_pos ⟨trivial, by omega, by omega, .inl (by omega), by simp; omega⟩]
      simp [St.val]
    · subst hH
      simp only [clrK, hx, ho]
      rw [if_pos ⟨trivial, by omega, hw id (by simp [idsOf]), hzs, by rw [Nat.sub_mul]; omega⟩]
    · simp only [slcK, bnd, hx, hy]
      rw [if_pos ⟨trivial, by omega, by omega, .inl (by omega), by simp⟩]
      simp [St.val]
    · rw [List.getElem?_take] at hj
      split at hj
      · rename_i hji
        have hm2 : (j + 1) * esz ≤ i * esz := Nat.mul_le_mul_right _ hji
        rw [Nat.succ_mul] at hm2
        rw [spl_other (.inl (by omega))]
        exact hr j a hj
      · cases hj
    · rcases h with h | ⟨id', e, ln, cp, h, hN⟩
      · cases h
      · cases h
        exact .inr ⟨_, _, _, _, rfl, hN⟩
    · rw [List.getElem?_set_ne]
      simp [idsOf] at hj
      omega
end
end Go.Proofs.Ytokicdkdllndpaa.Ev

/- Ways that come together again; calls that may write what they are handed. -/
namespace Go.Proofs.Ytokicdkdllndpaa.Ev
set_option linter.all false
open Go

section
variable {E : Env} {m : Md} {s : St} {Q : Ex → St → Prop} {ts : List Tk}

theorem go_then {c : CC} (P : St → Prop) (h : go E m [.c c] s fun e s' => e = .normal ∧ P s') (hq : ∀ s', P s' → go E m ts s' Q) : go E m (.c c :: ts) s Q := by
  rw [go] at *
  refine wpC_mono h fun e s' h => ?_
  cases e with
  | normal => simp only [thr, go] at *; exact hq _ h.2
  | exit j => simp only [thr] at h; exact absurd h.1 (by simp)
  | ret => simp only [thr] at h; exact absurd h.1 (by simp)

/-- Two ways, and what holds behind both. -/
theorem brT_join {c : Bool} {a b : CC} {s1 s2 : St} (P : St → Prop) (h1 : c = true → go E m [.c a] s1 fun e s' => e = .normal ∧ P s') (h2 : c = false → go E m [.c b] s2 fun e s' => e = .normal ∧ P s') (hq : ∀ s', P s' → go E m ts s' Q) : brT E m c (.c a :: ts) s1 (.c b :: ts) s2 Q :=
  ⟨fun h => go_then P (h1 h) hq, fun h => go_then P (h2 h) hq⟩

/-- A call that may write what it is handed, in a region with an open order too. -/
theorem callT_arg {f : Nat} {vs : List Value} {H : Hp} {P : Value → Hp → Prop} {draw : Bool} {d : Option Nat} (hpw : E.pw f = false) (h : ∀ m' : Md, Wr m' H → (∀ id ∈ vs.flatMap idsOf, m.wr id = true → m'.wr id = true) → m'.nr = m.nr → Fun E m' f vs H P) (hH : s.H = H) (hw : Wr m H)
    (hq : ∀ r H', P r H' → go E m ts { s with H := H', ρ := upd s.ρ d (.val r) } Q) : callT E m draw f (some vs) s d ts Q := by
  subst hH
  unfold callT opt
  refine Fun.mono (h _ (fun id hid => ?_) (fun id hid hm => ?_) ?_) hq
  · cases draw with
    | false => exact hw id hid
    | true => simp only [if_true, Md.drawn]; simp [hid]
  · cases draw with
    | false => exact hm
    | true =>
      simp only [if_true, Md.drawn, hpw]
      have : (vs.flatMap idsOf).contains id = true := List.contains_iff_mem.2 hid
      rw [hm, this]
      simp
  · cases draw <;> rfl
end
end Go.Proofs.Ytokicdkdllndpaa.Ev

/- Bytes and the numbers that are written in them: plain. -/
namespace Go.Proofs.Ytokicdkdllndpaa.Ev
set_option linter.all false
open Go

/-- A text of bytes that are told as numbers. -/
def strOf (l : List Nat) : ByteArray := ⟨(l.map UInt8.ofNat).toArray⟩
theorem strOf_size (l : List Nat) : (strOf l).size = l.length := by simp [strOf, ByteArray.size]
def varL (n : Nat) : List Nat := if n < 128 then [n] else (n % 128 + 128) :: varL (n / 128)
termination_by n

theorem varL_lt {n : Nat} (h : n < 128) : varL n = [n] := by rw [varL, if_pos h]
theorem varL_ge {n : Nat} (h : ¬ n < 128) : varL n = (n % 128 + 128) :: varL (n / 128) := by rw [varL, if_neg h]

def varB (n : Int) : ByteArray := if 0 ≤ n ∧ n ≤ 562949953421311 then strOf (varL n.toNat) else ByteArray.empty

theorem varL_pos : ∀ n : Nat, 0 < (varL n).length := fun n => by
  rw [varL]; split <;> simp

/-- So long at most. -/
theorem varL_len : ∀ (k n : Nat), n < 128 ^ (k + 1) → (varL n).length ≤ k + 1
  | 0, n, h => by rw [varL_lt (by simpa using h)]; simp
  | k + 1, n, h => by
    by_cases h1 : n < 128
    · rw [varL_lt h1]; simp
    · rw [varL_ge h1]
      have := varL_len k (n / 128) (by rw [Nat.div_lt_iff_lt_mul (by decide)]; rw [Nat.pow_succ] at h; exact h)
      simp; omega

/-- All but the last have their highest bit; the last hasn't. -/
theorem varL_bits : ∀ (n : Nat) (i b : Nat), (varL n)[i]? = some b → b < 256 ∧ (i + 1 < (varL n).length → 128 ≤ b) ∧ (i + 1 = (varL n).length → b < 128) := fun n => by
  induction n using Nat.strongRecOn with
  | _ n ih =>
    intro i b hb
    by_cases h : n < 128
    · rw [varL_lt h] at hb ⊢
      cases i with
      | zero => simp at hb; subst hb; exact ⟨by omega, by simp, fun _ => h⟩
      | succ i => simp at hb
    · rw [varL_ge h] at hb ⊢
      cases i with
      | zero =>
        simp at hb
        subst hb
        refine ⟨by omega, fun _ => by omega, fun h2 => ?_⟩
        have := varL_pos (n / 128)
        simp only [List.length_cons] at h2
        omega
      | succ i =>
        rw [List.getElem?_cons_succ] at hb
        have := ih (n / 128) (by omega) i b hb
        refine ⟨this.1, fun h2 => this.2.1 (by simp at h2; omega), fun h2 => this.2.2 (by simp at h2; omega)⟩

/-- What so many bytes say. -/
def valB (s : ByteArray) : Nat → Nat
  | 0 => 0
  | k + 1 => valB s k + (match s[k]? with | some b => b.toNat % 128 | none => 0) * 128 ^ k

theorem valB_lt (s : ByteArray) : ∀ k, valB s k < 128 ^ k
  | 0 => by simp [valB]
  | k + 1 => by
    have := valB_lt s k
    rw [valB, Nat.pow_succ]
    generalize hd : (match s[k]? with | some b => b.toNat % 128 | none => 0) = d
    have h2 : d ≤ 127 := by
      subst hd
      split
      · exact Nat.le_of_lt_succ (Nat.mod_lt _ (by decide))
      · exact Nat.zero_le _
    have h3 := Nat.mul_le_mul_right (128 ^ k) h2
    generalize d * 128 ^ k = q at h3
    omega

/-- Is that the number's text? -/
def isV (s : ByteArray) (k : Nat) : Prop := varB (valB s k) = s.extract 0 k

/-- The number that a text begins with, and how many bytes it has; none without one. -/
def readV (s : ByteArray) (n k : Nat) : Prop := 1 ≤ k ∧ k ≤ 7 ∧ k ≤ s.size ∧ n = valB s k ∧ isV s k
open Classical in
/-- .. as numbers: 0, 0 without one. -/
noncomputable def rdV (s : ByteArray) : Nat × Nat := if h : ∃ p : Nat × Nat, readV s p.1 p.2 then Classical.choose h else (0, 0)
end Go.Proofs.Ytokicdkdllndpaa.Ev

/- Terms: plain. -/
namespace Go.Proofs.Ytokicdkdllndpaa.Ev
set_option linter.all false
open Go

/-- The text from a place on. -/
def rest (s : ByteArray) (at_ : Nat) : ByteArray := s.extract at_ s.size
theorem readV.max {s : ByteArray} {n k : Nat} (h : readV s n k) : n ≤ 562949953421311 := by
  obtain ⟨h1, h2, h3, h4, h5⟩ := h
  have := valB_lt s k
  have h6 : 128 ^ k ≤ 128 ^ 7 := Nat.pow_le_pow_right (by decide) h2
  have h7 : (128 : Nat) ^ 7 = 562949953421312 := by decide
  omega

theorem varB_size (n : Int) : (varB n).size ≤ 7 := by
  unfold varB
  split
  · rename_i h
    rw [strOf_size]
    refine varL_len 6 _ ?_
    have h7 : (128 : Nat) ^ (6 + 1) = 562949953421312 := by decide
    omega
  · simp

end Go.Proofs.Ytokicdkdllndpaa.Ev

/- Rows of bytes, and the texts made of them. -/
namespace Go.Proofs.Ytokicdkdllndpaa.Ev
set_option linter.all false
open Go

def eN (n : Nat) : List Value := [.int .u8 (n : Int)]
abbrev SlN (H : Hp) (v : Value) (l : List Nat) : Prop := Sl (En eN) 1 H v l

theorem Sl.oneN {m : Md} {N : Nat} {H : Hp} {v : Value} {l : List Nat} (a : Nat) (h : SlN H v l) (ho : OwnS N v) (hN : N ≤ H.length) (hw : ∀ id, N ≤ id → m.wr id = true) (hb : l.length < 1048576) :
    ∃ v' H', (∀ (s : St) (x y : X), s.H = H → exv s.ρ x = some v → ex s.ρ y = .vs 1 [.int .u8 (a : Int)] → appK m s 1 1 x y = some (.val v', { s with H := H' })) ∧ SlN H' v' (l ++ [a]) ∧ OwnS N v' ∧
      (∀ j, j < H.length → j ∉ idsOf v → H'[j]? = H[j]?) ∧ H.length ≤ H'.length ∧ (∀ j ∈ idsOf v', j ∈ idsOf v ∨ H.length ≤ j) ∧ ∀ H0 : Hp, H0.length ≤ N → H0 <+: H → H0 <+: H' := by
  obtain ⟨v', H', h1, h2⟩ := h.app (m := m) (n := 1) (bytes := 1) (l2 := [a]) (cs := [.int .u8 (a : Int)]) ho hN hw (fun _ => rfl) (by simp) rfl (fun i b hi => by
    cases i with
    | zero => simp at hi; subst hi; rfl
    | succ i => simp at hi) (by unfold Ev.room; simp; omega) (by unfold Ev.room; simp; omega)
  exact ⟨v', H', fun s x y hH hx hy => h1 s x y hH hx (by rw [hy]; rfl), h2⟩

theorem bytesOf_map : ∀ {l : List Nat}, (∀ n ∈ l, n < 256) → bytesOf (l.map fun (n : Nat) => Value.int .u8 (n : Int)) = some (l.map UInt8.ofNat)
  | [], _ => rfl
  | a :: l, h => by
    have ih := bytesOf_map (l := l) fun n hn => h n (List.mem_cons_of_mem _ hn)
    have ha := h a (by simp)
    simp only [List.map_cons, bytesOf, ih, byteOf, Int.toNat_natCast]

theorem Sl.b2s {H : Hp} {v : Value} {l : List Nat} (h : SlN H v l) (hl : ∀ n ∈ l, n < 256) : ∀ (s : St) (x : X), s.H = H → ex s.ρ x = .val v → b2sK s x = some (.val (.string (strOf l)), s) := by
  obtain ⟨cs, h1, h2, h3⟩ := h.src
  intro s x hH hx
  have hcs : cs = l.map fun (n : Nat) => Value.int .u8 (n : Int) := by
    refine List.ext_getElem? fun j => ?_
    rw [List.getElem?_map]
    by_cases hj : j < l.length
    · have := h3 j _ (List.getElem?_eq_getElem hj)
      unfold En eN at this
      have h4 := getElem?_of_take this (j := 0) (by omega)
      rw [Nat.mul_one, Nat.add_zero] at h4
      rw [h4, List.getElem?_eq_getElem hj]
      rfl
    · rw [List.getElem?_eq_none (by omega), List.getElem?_eq_none (by omega)]
      rfl
  unfold b2sK
  rw [hx, hH, h1]
  simp only
  rw [hcs, bytesOf_map hl]
  rfl

theorem wrap8 (n : Int) (h0 : 0 ≤ n) (h1 : n < 256) : IntKind.u8.wrap n = n := by
  simp [IntKind.wrap, IntKind.bits, IntKind.signed]
  omega

theorem own_newN {H : Hp} : SlN (H ++ [[]]) (.slice (some ⟨H.length, 0, some 1⟩) 0 (0 * 1)) [] := .inr ⟨H.length, 0, 0, [], rfl, by simp, by simp, by simp, by simp, fun i a hi => by simp at hi⟩

theorem and7 {k : Nat} (h : k < 9223372036854775808) : IntKind.i64.wrap ((BitVec.ofInt IntKind.i64.bits (k : Int) &&& BitVec.ofInt IntKind.i64.bits 127).toNat : Int) = ((k % 128 : Nat) : Int) := by
  have h1 : (BitVec.ofInt IntKind.i64.bits (k : Int) &&& BitVec.ofInt IntKind.i64.bits 127).toNat = k % 128 := by
    show (BitVec.ofInt 64 (k : Int) &&& BitVec.ofInt 64 127).toNat = _
    rw [BitVec.toNat_and, BitVec.toNat_ofInt, BitVec.toNat_ofInt]
    have e1 : ((k : Int) % ((2 ^ 64 : Nat) : Int)).toNat = k := by
      rw [Int.emod_eq_of_lt (by omega) (by omega)]
      simp
    rw [e1]
    exact Nat.and_two_pow_sub_one_eq_mod k 7
  rw [h1, wrap64 _ (by omega) (by omega)]

theorem or128 {k : Nat} (h : k < 128) : IntKind.i64.wrap ((BitVec.ofInt IntKind.i64.bits (k : Int) ||| BitVec.ofInt IntKind.i64.bits 128).toNat : Int) = ((k + 128 : Nat) : Int) := by
  have h1 : (BitVec.ofInt IntKind.i64.bits (k : Int) ||| BitVec.ofInt IntKind.i64.bits 128).toNat = k + 128 := by
    show (BitVec.ofInt 64 (k : Int) ||| BitVec.ofInt 64 128).toNat = _
    rw [BitVec.toNat_or, BitVec.toNat_ofInt, BitVec.toNat_ofInt]
    have e1 : ((k : Int) % ((2 ^ 64 : Nat) : Int)).toNat = k := by
      rw [Int.emod_eq_of_lt (by omega) (by omega)]
      simp
    rw [e1]
    show k ||| 128 = k + 128
    have := Nat.two_pow_add_eq_or_of_lt (i := 7) (b := k) (by omega) 1
    rw [Nat.or_comm]
    simp at this
    omega
  rw [h1, wrap64 _ (by omega) (by omega)]

end Go.Proofs.Ytokicdkdllndpaa.Ev

/- A number's text, and what follows it, read again: plain. -/
namespace Go.Proofs.Ytokicdkdllndpaa.Ev
set_option linter.all false
open Go

theorem cat_left {a b : ByteArray} {i : Nat} (h : i < a.size) : (a ++ b)[i]? = a[i]? := by
  show (a ++ b).data[i]? = a.data[i]?
  rw [ByteArray.data_append, Array.getElem?_append_left (show i < a.data.size from h)]
end Go.Proofs.Ytokicdkdllndpaa.Ev

/- The seat's program on the small machine: which slots hold boxes of their own, which functions leave memory as it is. -/
namespace Go.Proofs.Ytokicdkdllndpaa.Ev
set_option linter.all false
open Go
def hvT : List (Nat × List Nat) := [(3, [1, 5]), (4, [1, 5]), (5, [3, 5, 9]), (6, [3, 4, 7, 9]), (7, [2, 3, 6, 8, 9, 14]), (8, [2, 6, 8, 10, 15]), (9, [2, 6, 8, 10, 15]), (10, [3, 5, 7, 9, 12, 14, 16, 17, 18, 20]), (11, [3, 5, 9]), (12, [3, 5, 8, 10, 12, 13, 14, 15]), (13, [2]), (14, [1]), (15, [1, 2, 3]), (16, [1, 4]), (17, [2, 3]), (18, [1, 5]), (19, [1, 5]), (20, [2, 6, 60]), (21, [2, 5, 7, 37]), (22, [2]), (23, [2]), (25, [2]), (27, [2, 3, 4, 6]), (28, [1, 2, 3]), (29, [2, 4, 6, 74]), (31, [2, 4, 8]), (33, [2, 4, 8, 9]), (36, [2, 4, 6, 8]), (37, [2, 4, 6, 8, 9]), (38, [2, 6, 9, 12, 41]), (40, [2, 3, 5]), (41, [2, 4, 20, 40, 55, 72, 84]), (42, [2, 8, 74]), (43, [2, 3]), (44, [2]), (45, [2]), (46, [2]), (47, [1]), (48, [1]), (51, [2, 3, 5]), (52, [2, 3]), (53, [2, 3]), (54, [2, 3, 5]), (55, [2, 3]), (56, [2, 3]), (59, [1]), (61, [1]), (64, [15, 22]), (65, [15, 22]), (66, [39]), (72, [2, 3, 27, 43]), (75, [2, 3, 4, 7]), (76, [1, 2]), (77, [1, 2, 3]), (78, [1, 2]), (80, [2]), (82, [2, 3]), (84, [2, 3]), (85, [18]), (87, [2, 3]), (88, [1]), (93, [2, 3, 24, 51]), (94, [1]), (95, [17, 23]), (102, [2, 3]), (106, [34]), (108, [2]), (109, [2, 3, 4, 58, 66, 72]), (112, [29, 35])]
def hv (f t : Nat) : Bool := match hvT.find? (·.1 == f) with | some p => p.2.contains t | none => false
def trT : List Nat := [13, 14, 16, 17, 18, 19, 23, 24, 28, 30, 34, 39, 43, 45, 47, 48, 49, 52, 53, 55, 56, 57, 58, 59, 61, 62, 63, 64, 65, 70, 77, 79, 80, 82, 84, 88, 90, 92, 94, 95, 96, 98, 99, 100, 101, 102, 103, 104, 108, 112, 113, 114, 115, 116, 117, 118, 119, 111, 128, 129, 130, 131, 24, 26, 39, 73, 74, 86, 87, 97, 105, 106, 107, 50]
noncomputable def EE : Env := { fns := fnsOf Go.Proofs.Try.prog hv, prim := fun _ => none, pw := fun f => [113].contains f, tr := fun f => trT.contains f }
end Go.Proofs.Ytokicdkdllndpaa.Ev

/- The types of the laws' parameters: texts. -/
namespace Go.Proofs.Ytokicdkdllndpaa.Ev
set_option linter.all false
open Go
set_option maxRecDepth 100000
end Go.Proofs.Ytokicdkdllndpaa.Ev

/- Code of the program's functions, as the small machine has it: written by mkcode.py. -/
namespace Go.Proofs.Ytokicdkdllndpaa.Ev
set_option linter.all false
open Go
def c6 : CF := ⟨63, (.seq (.reg false [⟨(some 2), .none, (.mov (.c (.bool false))), 0, []⟩]) (.seq (.seq (.reg false [⟨(some 11), .none, (.mov (.t 0)), 0, []⟩, ⟨(some 12), .none, (.call 24 [(.t 11)]), 1, []⟩]) (.cond (.t 12) (.seq (.reg false [⟨(some 2), .none, (.mov (.c (.bool true))), 0, []⟩]) .ret) .skip)) (.seq (.reg false [⟨(some 13), .none, (.mov (.t 0)), 0, []⟩, ⟨(some 14), .none, (.call 25 [(.t 13)]), 1, []⟩, ⟨(some 3), .none, (.newV [(.int .i64 0), (.slice .none 0 0)]), 2, []⟩, ⟨.none, .none, (.store 2 (.t 3) (.t 14)), 3, []⟩]) (.seq (.reg false [⟨(some 16), .none, (.load 2 true (.t 3)), 0, []⟩, ⟨(some 17), .none, (.call 19 [(.t 16)]), 1, []⟩, ⟨(some 18), .none, (.call 21 [(.t 17)]), 2, []⟩, ⟨(some 15), .none, (.mov (.t 18)), 3, []⟩, ⟨(some 19), .none, (.ext (.t 15) 0), 4, []⟩, ⟨(some 20), .none, (.ext (.t 15) 1), 5, []⟩, ⟨(some 4), .none, (.newV [(.int .i64 0), (.slice .none 0 0)]), 6, []⟩, ⟨.none, .none, (.store 2 (.t 4) (.t 19)), 7, []⟩, ⟨(some 5), .none, (.mov (.t 20)), 8, []⟩]) (.seq (.reg false [⟨(some 21), .none, (.mov (.t 0)), 0, []⟩, ⟨(some 22), .none, (.call 26 [(.t 21)]), 1, []⟩, ⟨(some 6), .none, (.mov (.t 22)), 2, []⟩]) (.seq (.reg false [⟨(some 24), .none, (.mov (.t 6)), 0, []⟩, ⟨(some 25), .none, (.call 21 [(.t 24)]), 1, []⟩, ⟨(some 23), .none, (.mov (.t 25)), 2, []⟩, ⟨(some 26), .none, (.ext (.t 23) 0), 3, []⟩, ⟨(some 27), .none, (.ext (.t 23) 1), 4, []⟩, ⟨(some 7), .none, (.newV [(.int .i64 0), (.slice .none 0 0)]), 5, []⟩, ⟨.none, .none, (.store 2 (.t 7) (.t 26)), 6, []⟩, ⟨(some 8), .none, (.mov (.t 27)), 7, []⟩]) (.seq (.reg false [⟨(some 29), .none, (.mov (.t 6)), 0, []⟩, ⟨(some 30), .none, (.call 20 [(.t 29)]), 1, []⟩, ⟨(some 28), .none, (.mov (.t 30)), 2, []⟩, ⟨(some 31), .none, (.ext (.t 28) 0), 3, []⟩, ⟨(some 32), .none, (.ext (.t 28) 1), 4, []⟩, ⟨(some 9), .none, (.newV [(.int .i64 0), (.slice .none 0 0)]), 5, []⟩, ⟨.none, .none, (.store 2 (.t 9) (.t 31)), 6, []⟩, ⟨(some 10), .none, (.mov (.t 32)), 7, []⟩]) (.seq (.reg true [⟨(some 33), .none, (.mov (.t 5)), 0, []⟩, ⟨(some 34), .none, (.load 2 true (.t 3)), 1, []⟩, ⟨(some 35), .none, (.call 14 [(.t 34)]), 2, [1]⟩, ⟨(some 36), .none, (.beq false (.t 33) (.t 35)), 3, [0, 2, 1]⟩, ⟨(some 37), .none, (.mov (.t 36)), 4, [3, 0, 2, 1]⟩, ⟨(some 38), (.some (37, true)), (.mov (.t 5)), 5, [4, 3, 0, 2, 1]⟩, ⟨(some 39), (.some (37, true)), (.un .not (.t 38)), 6, [5, 4, 3, 0, 2, 1]⟩, ⟨(some 40), (.some (37, true)), (.mov (.t 39)), 7, [6, 5, 4, 3, 0, 2, 1]⟩, ⟨(some 41), (.some (40, false)), (.load 2 true (.t 4)), 8, [7, 6, 5, 4, 3, 0, 2, 1]⟩, ⟨(some 42), (.some (40, false)), (.call 18 [(.t 41)]), 9, [8, 7, 6, 5, 4, 3, 0, 2, 1]⟩, ⟨(some 43), (.some (40, false)), (.load 2 true (.t 3)), 10, [7, 6, 5, 4, 3, 0, 2, 1]⟩, ⟨(some 44), (.some (40, false)), (.call 18 [(.t 43)]), 11, [10, 7, 6, 5, 4, 3, 0, 2, 1, 9, 8]⟩, ⟨(some 45), (.some (40, false)), (.bin .eql (.t 42) (.t 44)), 12, [9, 8, 7, 6, 5, 4, 3, 0, 2, 1, 11, 10]⟩, ⟨(some 46), (.some (37, true)), (.pick (.t 40) (.c (.bool true)) (.t 45)), 13, [7, 6, 5, 4, 3, 0, 2, 1, 12, 9, 8, 11, 10]⟩, ⟨(some 47), .none, (.pick (.t 37) (.t 46) (.c (.bool false))), 14, [4, 3, 0, 2, 1, 13, 7, 6, 5, 12, 9, 8, 11, 10]⟩, ⟨(some 48), .none, (.mov (.t 47)), 15, [14, 4, 3, 0, 2, 1, 13, 7, 6, 5, 12, 9, 8, 11, 10]⟩, ⟨(some 49), (.some (48, true)), (.mov (.t 8)), 16, [15, 14, 4, 3, 0, 2, 1, 13, 7, 6, 5, 12, 9, 8, 11, 10]⟩, ⟨(some 50), (.some (48, true)), (.mov (.t 10)), 17, [15, 14, 4, 3, 0, 2, 1, 13, 7, 6, 5, 12, 9, 8, 11, 10]⟩, ⟨(some 51), (.some (48, true)), (.beq false (.t 49) (.t 50)), 18, [16, 15, 14, 4, 3, 0, 2, 1, 13, 7, 6, 5, 12, 9, 8, 11, 10, 17]⟩, ⟨(some 52), .none, (.pick (.t 48) (.t 51) (.c (.bool false))), 19, [15, 14, 4, 3, 0, 2, 1, 13, 7, 6, 5, 12, 9, 8, 11, 10, 18, 16, 17]⟩, ⟨(some 53), .none, (.mov (.t 52)), 20, [19, 15, 14, 4, 3, 0, 2, 1, 13, 7, 6, 5, 12, 9, 8, 11, 10, 18, 16, 17]⟩, ⟨(some 54), (.some (53, true)), (.mov (.t 8)), 21, [20, 19, 15, 14, 4, 3, 0, 2, 1, 13, 7, 6, 5, 12, 9, 8, 11, 10, 18, 16, 17]⟩, ⟨(some 55), (.some (53, true)), (.un .not (.t 54)), 22, [21, 20, 19, 15, 14, 4, 3, 0, 2, 1, 13, 7, 6, 5, 12, 9, 8, 11, 10, 18, 16, 17]⟩, ⟨(some 56), (.some (53, true)), (.mov (.t 55)), 23, [22, 21, 20, 19, 15, 14, 4, 3, 0, 2, 1, 13, 7, 6, 5, 12, 9, 8, 11, 10, 18, 16, 17]⟩, ⟨(some 57), (.some (56, false)), (.load 2 true (.t 7)), 24, [23, 22, 21, 20, 19, 15, 14, 4, 3, 0, 2, 1, 13, 7, 6, 5, 12, 9, 8, 11, 10, 18, 16, 17]⟩, ⟨(some 58), (.some (56, false)), (.call 19 [(.t 57)]), 25, [24, 23, 22, 21, 20, 19, 15, 14, 4, 3, 0, 2, 1, 13, 7, 6, 5, 12, 9, 8, 11, 10, 18, 16, 17]⟩, ⟨(some 59), (.some (56, false)), (.mov (.t 6)), 26, [23, 22, 21, 20, 19, 15, 14, 4, 3, 0, 2, 1, 13, 7, 6, 5, 12, 9, 8, 11, 10, 18, 16, 17]⟩, ⟨(some 60), (.some (56, false)), (.bin .eql (.t 58) (.t 59)), 27, [25, 24, 23, 22, 21, 20, 19, 15, 14, 4, 3, 0, 2, 1, 13, 7, 6, 5, 12, 9, 8, 11, 10, 18, 16, 17, 26]⟩, ⟨(some 61), (.some (53, true)), (.pick (.t 56) (.c (.bool true)) (.t 60)), 28, [23, 22, 21, 20, 19, 15, 14, 4, 3, 0, 2, 1, 13, 7, 6, 5, 12, 9, 8, 11, 10, 18, 16, 17, 27, 25, 24, 26]⟩, ⟨(some 62), .none, (.pick (.t 53) (.t 61) (.c (.bool false))), 29, [20, 19, 15, 14, 4, 3, 0, 2, 1, 13, 7, 6, 5, 12, 9, 8, 11, 10, 18, 16, 17, 28, 23, 22, 21, 27, 25, 24, 26]⟩, ⟨(some 2), .none, (.mov (.t 62)), 30, [29, 20, 19, 15, 14, 4, 3, 0, 2, 1, 13, 7, 6, 5, 12, 9, 8, 11, 10, 18, 16, 17, 28, 23, 22, 21, 27, 25, 24, 26]⟩]) .ret)))))))), [(.t 2)]⟩
theorem k6 : EE.fns 6 = some c6 := by kernel_rfl
def c10 : CF := ⟨164, (.seq (.reg false [⟨(some 2), .none, (.mov (.c (.bool false))), 0, []⟩]) (.seq (.seq (.reg false [⟨(some 22), .none, (.mov (.t 0)), 0, []⟩, ⟨(some 23), .none, (.call 24 [(.t 22)]), 1, []⟩]) (.cond (.t 23) (.seq (.reg false [⟨(some 2), .none, (.mov (.c (.bool true))), 0, []⟩]) .ret) .skip)) (.seq (.reg false [⟨(some 25), .none, (.mov (.t 0)), 0, []⟩, ⟨(some 26), .none, (.call 38 [(.t 25)]), 1, []⟩, ⟨(some 24), .none, (.mov (.t 26)), 2, []⟩, ⟨(some 27), .none, (.ext (.t 24) 0), 3, []⟩, ⟨(some 28), .none, (.ext (.t 24) 1), 4, []⟩, ⟨(some 3), .none, (.newV [(.int .i64 0), (.slice .none 0 0)]), 5, []⟩, ⟨.none, .none, (.store 2 (.t 3) (.t 27)), 6, []⟩, ⟨(some 4), .none, (.mov (.t 28)), 7, []⟩]) (.seq (.reg false [⟨(some 30), .none, (.load 2 true (.t 3)), 0, []⟩, ⟨(some 31), .none, (.mov (.t 4)), 1, []⟩, ⟨(some 32), .none, (.call 37 [(.t 30), (.t 31)]), 2, []⟩, ⟨(some 29), .none, (.mov (.t 32)), 3, []⟩, ⟨(some 33), .none, (.ext (.t 29) 0), 4, []⟩, ⟨(some 34), .none, (.ext (.t 29) 1), 5, []⟩, ⟨(some 5), .none, (.newV [(.int .i64 0), (.slice .none 0 0)]), 6, []⟩, ⟨.none, .none, (.store 2 (.t 5) (.t 33)), 7, []⟩, ⟨(some 6), .none, (.mov (.t 34)), 8, []⟩]) (.seq (.reg false [⟨(some 36), .none, (.load 2 true (.t 3)), 0, []⟩, ⟨(some 37), .none, (.mov (.t 4)), 1, []⟩, ⟨(some 38), .none, (.call 36 [(.t 36), (.t 37)]), 2, []⟩, ⟨(some 35), .none, (.mov (.t 38)), 3, []⟩, ⟨(some 39), .none, (.ext (.t 35) 0), 4, []⟩, ⟨(some 40), .none, (.ext (.t 35) 1), 5, []⟩, ⟨(some 7), .none, (.newV [(.int .i64 0), (.slice .none 0 0)]), 6, []⟩, ⟨.none, .none, (.store 2 (.t 7) (.t 39)), 7, []⟩, ⟨(some 8), .none, (.mov (.t 40)), 8, []⟩]) (.seq (.seq (.reg false [⟨(some 41), .none, (.mov (.t 6)), 0, []⟩, ⟨(some 42), .none, (.mov (.t 8)), 1, []⟩, ⟨(some 43), .none, (.beq true (.t 41) (.t 42)), 2, []⟩]) (.cond (.t 43) (.seq (.reg false [⟨(some 2), .none, (.mov (.c (.bool false))), 0, []⟩]) .ret) .skip)) (.seq (.reg false [⟨(some 45), .none, (.build [(.int .i64 0), (.slice .none 0 0)] []), 0, []⟩, ⟨(some 46), .none, (.mov (.t 4)), 1, []⟩, ⟨(some 47), .none, (.call 33 [(.t 45), (.t 46)]), 2, []⟩, ⟨(some 44), .none, (.mov (.t 47)), 3, []⟩, ⟨(some 48), .none, (.ext (.t 44) 0), 4, []⟩, ⟨(some 49), .none, (.ext (.t 44) 1), 5, []⟩, ⟨(some 9), .none, (.newV [(.int .i64 0), (.slice .none 0 0)]), 6, []⟩, ⟨.none, .none, (.store 2 (.t 9) (.t 48)), 7, []⟩, ⟨(some 10), .none, (.mov (.t 49)), 8, []⟩]) (.seq (.seq (.reg false [⟨(some 50), .none, (.mov (.t 10)), 0, []⟩, ⟨(some 51), .none, (.mov (.t 4)), 1, []⟩, ⟨(some 52), .none, (.lenS (.t 51)), 2, []⟩, ⟨(some 53), .none, (.bin .neq (.t 50) (.t 52)), 3, []⟩, ⟨(some 54), .none, (.mov (.t 53)), 4, []⟩, ⟨(some 55), (.some (54, false)), (.fadr 0 (.t 9)), 5, []⟩, ⟨(some 56), (.some (54, false)), (.load 1 false (.t 55)), 6, []⟩, ⟨(some 57), (.some (54, false)), (.mov (.t 4)), 7, []⟩, ⟨(some 58), (.some (54, false)), (.lenS (.t 57)), 8, []⟩, ⟨(some 59), (.some (54, false)), (.bin .neq (.t 56) (.t 58)), 9, []⟩, ⟨(some 60), .none, (.pick (.t 54) (.c (.bool true)) (.t 59)), 10, []⟩]) (.cond (.t 60) (.seq (.reg false [⟨(some 2), .none, (.mov (.c (.bool false))), 0, []⟩]) .ret) .skip)) (.seq (.reg false [⟨(some 11), .none, (.mov (.c (.int .i64 0))), 0, []⟩]) (.seq (.seq (.reg false [⟨(some 61), .none, (.mov (.t 4)), 0, []⟩, ⟨(some 62), .none, (.lenS (.t 61)), 1, []⟩, ⟨(some 63), .none, (.bin .gtr (.t 62) (.c (.int .i64 0))), 2, []⟩]) (.cond (.t 63) (.reg false [⟨(some 64), .none, (.mov (.t 0)), 0, []⟩, ⟨(some 65), .none, (.call 39 [(.t 64), (.c (.int .i64 0))]), 1, []⟩, ⟨(some 66), .none, (.mov (.t 4)), 2, []⟩, ⟨(some 67), .none, (.lenS (.t 66)), 3, []⟩, ⟨(some 68), .none, (.bin .add (.t 67) (.c (.int .i64 1))), 4, []⟩, ⟨(some 69), .none, (.bin .rem (.t 65) (.t 68)), 5, []⟩, ⟨(some 11), .none, (.mov (.t 69)), 6, []⟩]) .skip)) (.seq (.reg false [⟨(some 71), .none, (.build [(.int .i64 0), (.slice .none 0 0)] []), 0, []⟩, ⟨(some 72), .none, (.mov (.t 4)), 1, []⟩, ⟨(some 73), .none, (.mov (.t 11)), 2, []⟩, ⟨(some 74), .none, (.slc 5 (.t 72) .none (.some (.t 73))), 3, []⟩, ⟨(some 75), .none, (.call 33 [(.t 71), (.t 74)]), 4, []⟩, ⟨(some 70), .none, (.mov (.t 75)), 5, []⟩, ⟨(some 76), .none, (.ext (.t 70) 0), 6, []⟩, ⟨(some 77), .none, (.ext (.t 70) 1), 7, []⟩, ⟨(some 12), .none, (.newV [(.int .i64 0), (.slice .none 0 0)]), 8, []⟩, ⟨.none, .none, (.store 2 (.t 12) (.t 76)), 9, []⟩, ⟨(some 13), .none, (.mov (.t 77)), 10, []⟩]) (.seq (.reg false [⟨(some 79), .none, (.load 2 true (.t 12)), 0, []⟩, ⟨(some 80), .none, (.mov (.t 4)), 1, []⟩, ⟨(some 81), .none, (.call 37 [(.t 79), (.t 80)]), 2, []⟩, ⟨(some 78), .none, (.mov (.t 81)), 3, []⟩, ⟨(some 82), .none, (.ext (.t 78) 0), 4, []⟩, ⟨(some 83), .none, (.ext (.t 78) 1), 5, []⟩, ⟨(some 14), .none, (.newV [(.int .i64 0), (.slice .none 0 0)]), 6, []⟩, ⟨.none, .none, (.store 2 (.t 14) (.t 82)), 7, []⟩, ⟨(some 15), .none, (.mov (.t 83)), 8, []⟩]) (.seq (.seq (.reg true [⟨(some 84), .none, (.mov (.t 15)), 0, []⟩, ⟨(some 85), .none, (.un .not (.t 84)), 1, [0]⟩, ⟨(some 86), .none, (.mov (.t 85)), 2, [1, 0]⟩, ⟨(some 87), (.some (86, false)), (.load 2 true (.t 14)), 3, [2, 1, 0]⟩, ⟨(some 88), (.some (86, false)), (.call 19 [(.t 87)]), 4, [3, 2, 1, 0]⟩, ⟨(some 89), (.some (86, false)), (.load 2 true (.t 9)), 5, [2, 1, 0]⟩, ⟨(some 90), (.some (86, false)), (.call 19 [(.t 89)]), 6, [5, 2, 1, 0, 4, 3]⟩, ⟨(some 91), (.some (86, false)), (.bin .neq (.t 88) (.t 90)), 7, [4, 3, 2, 1, 0, 6, 5]⟩, ⟨(some 92), .none, (.pick (.t 86) (.c (.bool true)) (.t 91)), 8, [2, 1, 0, 7, 4, 3, 6, 5]⟩]) (.cond (.t 92) (.seq (.reg false [⟨(some 2), .none, (.mov (.c (.bool false))), 0, []⟩]) .ret) .skip)) (.seq (.reg false [⟨(some 94), .none, (.mov (.t 0)), 0, []⟩, ⟨(some 95), .none, (.call 40 [(.t 94)]), 1, []⟩, ⟨(some 93), .none, (.mov (.t 95)), 2, []⟩, ⟨(some 96), .none, (.ext (.t 93) 0), 3, []⟩, ⟨(some 97), .none, (.ext (.t 93) 1), 4, []⟩, ⟨(some 16), .none, (.newV [(.int .i64 0), (.slice .none 0 0)]), 5, []⟩, ⟨(some 17), .none, (.newV [(.int .i64 0), (.int .i64 0), (.int .i64 0), (.int .i64 0), (.bool false)]), 6, []⟩, ⟨.none, .none, (.store 2 (.t 16) (.t 96)), 7, []⟩, ⟨.none, .none, (.store 5 (.t 17) (.t 97)), 8, []⟩]) (.seq (.reg false [⟨(some 99), .none, (.load 2 true (.t 16)), 0, []⟩, ⟨(some 100), .none, (.load 5 true (.t 17)), 1, []⟩, ⟨(some 101), .none, (.call 29 [(.t 99), (.t 100)]), 2, []⟩, ⟨(some 98), .none, (.mov (.t 101)), 3, []⟩, ⟨(some 102), .none, (.ext (.t 98) 0), 4, []⟩, ⟨(some 103), .none, (.ext (.t 98) 1), 5, []⟩, ⟨(some 18), .none, (.newV [(.int .i64 0), (.slice .none 0 0)]), 6, []⟩, ⟨.none, .none, (.store 2 (.t 18) (.t 102)), 7, []⟩, ⟨(some 19), .none, (.mov (.t 103)), 8, []⟩]) (.seq (.reg false [⟨(some 105), .none, (.load 2 true (.t 16)), 0, []⟩, ⟨(some 106), .none, (.load 5 true (.t 17)), 1, []⟩, ⟨(some 107), .none, (.call 27 [(.t 105), (.t 106)]), 2, []⟩, ⟨(some 104), .none, (.mov (.t 107)), 3, []⟩, ⟨(some 108), .none, (.ext (.t 104) 0), 4, []⟩, ⟨(some 109), .none, (.ext (.t 104) 1), 5, []⟩, ⟨(some 20), .none, (.newV [(.int .i64 0), (.slice .none 0 0)]), 6, []⟩, ⟨.none, .none, (.store 2 (.t 20) (.t 108)), 7, []⟩, ⟨(some 21), .none, (.mov (.t 109)), 8, []⟩]) (.seq (.seq (.reg false [⟨(some 110), .none, (.mov (.t 19)), 0, []⟩, ⟨(some 111), .none, (.mov (.t 21)), 1, []⟩, ⟨(some 112), .none, (.beq true (.t 110) (.t 111)), 2, []⟩]) (.cond (.t 112) (.seq (.reg false [⟨(some 2), .none, (.mov (.c (.bool false))), 0, []⟩]) .ret) .skip)) (.seq (.seq (.reg false [⟨(some 113), .none, (.load 2 true (.t 16)), 0, []⟩, ⟨(some 114), .none, (.call 14 [(.t 113)]), 1, []⟩, ⟨(some 115), .none, (.un .not (.t 114)), 2, []⟩]) (.cond (.t 115) (.seq (.reg false [⟨(some 116), .none, (.fadr 1 (.t 18)), 0, []⟩, ⟨(some 117), .none, (.load 1 false (.t 116)), 1, []⟩, ⟨(some 118), .none, (.lenS (.t 117)), 2, []⟩, ⟨(some 119), .none, (.bin .eql (.t 118) (.c (.int .i64 0))), 3, []⟩, ⟨(some 120), .none, (.mov (.t 119)), 4, []⟩, ⟨(some 121), (.some (120, true)), (.fadr 0 (.t 18)), 5, []⟩, ⟨(some 122), (.some (120, true)), (.load 1 false (.t 121)), 6, []⟩, ⟨(some 123), (.some (120, true)), (.bin .eql (.t 122) (.c (.int .i64 0))), 7, []⟩, ⟨(some 124), .none, (.pick (.t 120) (.t 123) (.c (.bool false))), 8, []⟩, ⟨(some 2), .none, (.mov (.t 124)), 9, []⟩]) .ret) .skip)) (.seq (.reg true [⟨(some 125), .none, (.load 2 true (.t 18)), 0, []⟩, ⟨(some 126), .none, (.call 14 [(.t 125)]), 1, [0]⟩, ⟨(some 127), .none, (.mov (.t 126)), 2, [1, 0]⟩, ⟨(some 128), (.some (127, true)), (.mov (.t 19)), 3, [2, 1, 0]⟩, ⟨(some 129), (.some (127, true)), (.mov (.t 128)), 4, [3, 2, 1, 0]⟩, ⟨(some 130), (.some (129, true)), (.fadr 0 (.t 18)), 5, [4, 3, 2, 1, 0]⟩, ⟨(some 131), (.some (129, true)), (.load 1 false (.t 130)), 6, [5, 4, 3, 2, 1, 0]⟩, ⟨(some 132), (.some (129, true)), (.fadr 0 (.t 16)), 7, [4, 3, 2, 1, 0]⟩, ⟨(some 133), (.some (129, true)), (.load 1 false (.t 132)), 8, [7, 4, 3, 2, 1, 0]⟩, ⟨(some 134), (.some (129, true)), (.bin .add (.t 133) (.c (.int .i64 1))), 9, [8, 7, 4, 3, 2, 1, 0]⟩, ⟨(some 135), (.some (129, true)), (.bin .eql (.t 131) (.t 134)), 10, [6, 5, 4, 3, 2, 1, 0, 9, 8, 7]⟩, ⟨(some 136), (.some (127, true)), (.pick (.t 129) (.t 135) (.c (.bool false))), 11, [4, 3, 2, 1, 0, 10, 6, 5, 9, 8, 7]⟩, ⟨(some 137), (.some (127, true)), (.mov (.t 136)), 12, [11, 4, 3, 2, 1, 0, 10, 6, 5, 9, 8, 7]⟩, ⟨(some 138), (.some (137, false)), (.mov (.t 19)), 13, [12, 11, 4, 3, 2, 1, 0, 10, 6, 5, 9, 8, 7]⟩, ⟨(some 139), (.some (137, false)), (.un .not (.t 138)), 14, [13, 12, 11, 4, 3, 2, 1, 0, 10, 6, 5, 9, 8, 7]⟩, ⟨(some 140), (.some (137, false)), (.mov (.t 139)), 15, [14, 13, 12, 11, 4, 3, 2, 1, 0, 10, 6, 5, 9, 8, 7]⟩, ⟨(some 141), (.some (140, true)), (.load 2 true (.t 18)), 16, [15, 14, 13, 12, 11, 4, 3, 2, 1, 0, 10, 6, 5, 9, 8, 7]⟩, ⟨(some 142), (.some (140, true)), (.call 18 [(.t 141)]), 17, [16, 15, 14, 13, 12, 11, 4, 3, 2, 1, 0, 10, 6, 5, 9, 8, 7]⟩, ⟨(some 143), (.some (140, true)), (.load 2 true (.t 16)), 18, [15, 14, 13, 12, 11, 4, 3, 2, 1, 0, 10, 6, 5, 9, 8, 7]⟩, ⟨(some 144), (.some (140, true)), (.call 18 [(.t 143)]), 19, [18, 15, 14, 13, 12, 11, 4, 3, 2, 1, 0, 10, 6, 5, 9, 8, 7, 17, 16]⟩, ⟨(some 145), (.some (140, true)), (.bin .eql (.t 142) (.t 144)), 20, [17, 16, 15, 14, 13, 12, 11, 4, 3, 2, 1, 0, 10, 6, 5, 9, 8, 7, 19, 18]⟩, ⟨(some 146), (.some (137, false)), (.pick (.t 140) (.t 145) (.c (.bool false))), 21, [15, 14, 13, 12, 11, 4, 3, 2, 1, 0, 10, 6, 5, 9, 8, 7, 20, 17, 16, 19, 18]⟩, ⟨(some 147), (.some (127, true)), (.pick (.t 137) (.c (.bool true)) (.t 146)), 22, [12, 11, 4, 3, 2, 1, 0, 10, 6, 5, 9, 8, 7, 21, 15, 14, 13, 20, 17, 16, 19, 18]⟩, ⟨(some 148), .none, (.pick (.t 127) (.t 147) (.c (.bool false))), 23, [2, 1, 0, 22, 12, 11, 4, 3, 10, 6, 5, 9, 8, 7, 21, 15, 14, 13, 20, 17, 16, 19, 18]⟩, ⟨(some 149), .none, (.mov (.t 148)), 24, [23, 2, 1, 0, 22, 12, 11, 4, 3, 10, 6, 5, 9, 8, 7, 21, 15, 14, 13, 20, 17, 16, 19, 18]⟩, ⟨(some 150), (.some (149, true)), (.mov (.t 6)), 25, [24, 23, 2, 1, 0, 22, 12, 11, 4, 3, 10, 6, 5, 9, 8, 7, 21, 15, 14, 13, 20, 17, 16, 19, 18]⟩, ⟨(some 151), (.some (149, true)), (.mov (.t 150)), 26, [25, 24, 23, 2, 1, 0, 22, 12, 11, 4, 3, 10, 6, 5, 9, 8, 7, 21, 15, 14, 13, 20, 17, 16, 19, 18]⟩, ⟨(some 152), (.some (151, false)), (.load 2 true (.t 3)), 27, [26, 25, 24, 23, 2, 1, 0, 22, 12, 11, 4, 3, 10, 6, 5, 9, 8, 7, 21, 15, 14, 13, 20, 17, 16, 19, 18]⟩, ⟨(some 153), (.some (151, false)), (.call 14 [(.t 152)]), 28, [27, 26, 25, 24, 23, 2, 1, 0, 22, 12, 11, 4, 3, 10, 6, 5, 9, 8, 7, 21, 15, 14, 13, 20, 17, 16, 19, 18]⟩, ⟨(some 154), (.some (151, false)), (.un .not (.t 153)), 29, [28, 27, 26, 25, 24, 23, 2, 1, 0, 22, 12, 11, 4, 3, 10, 6, 5, 9, 8, 7, 21, 15, 14, 13, 20, 17, 16, 19, 18]⟩, ⟨(some 155), (.some (149, true)), (.pick (.t 151) (.c (.bool true)) (.t 154)), 30, [26, 25, 24, 23, 2, 1, 0, 22, 12, 11, 4, 3, 10, 6, 5, 9, 8, 7, 21, 15, 14, 13, 20, 17, 16, 19, 18, 29, 28, 27]⟩, ⟨(some 156), (.some (149, true)), (.mov (.t 155)), 31, [30, 26, 25, 24, 23, 2, 1, 0, 22, 12, 11, 4, 3, 10, 6, 5, 9, 8, 7, 21, 15, 14, 13, 20, 17, 16, 19, 18, 29, 28, 27]⟩, ⟨(some 157), (.some (156, false)), (.load 2 true (.t 5)), 32, [31, 30, 26, 25, 24, 23, 2, 1, 0, 22, 12, 11, 4, 3, 10, 6, 5, 9, 8, 7, 21, 15, 14, 13, 20, 17, 16, 19, 18, 29, 28, 27]⟩, ⟨(some 158), (.some (156, false)), (.call 18 [(.t 157)]), 33, [32, 31, 30, 26, 25, 24, 23, 2, 1, 0, 22, 12, 11, 4, 3, 10, 6, 5, 9, 8, 7, 21, 15, 14, 13, 20, 17, 16, 19, 18, 29, 28, 27]⟩, ⟨(some 159), (.some (156, false)), (.load 2 true (.t 3)), 34, [31, 30, 26, 25, 24, 23, 2, 1, 0, 22, 12, 11, 4, 3, 10, 6, 5, 9, 8, 7, 21, 15, 14, 13, 20, 17, 16, 19, 18, 29, 28, 27]⟩, ⟨(some 160), (.some (156, false)), (.call 18 [(.t 159)]), 35, [34, 31, 30, 26, 25, 24, 23, 2, 1, 0, 22, 12, 11, 4, 3, 10, 6, 5, 9, 8, 7, 21, 15, 14, 13, 20, 17, 16, 19, 18, 29, 28, 27, 33, 32]⟩, ⟨(some 161), (.some (156, false)), (.bin .eql (.t 158) (.t 160)), 36, [33, 32, 31, 30, 26, 25, 24, 23, 2, 1, 0, 22, 12, 11, 4, 3, 10, 6, 5, 9, 8, 7, 21, 15, 14, 13, 20, 17, 16, 19, 18, 29, 28, 27, 35, 34]⟩, ⟨(some 162), (.some (149, true)), (.pick (.t 156) (.c (.bool true)) (.t 161)), 37, [31, 30, 26, 25, 24, 23, 2, 1, 0, 22, 12, 11, 4, 3, 10, 6, 5, 9, 8, 7, 21, 15, 14, 13, 20, 17, 16, 19, 18, 29, 28, 27, 36, 33, 32, 35, 34]⟩, ⟨(some 163), .none, (.pick (.t 149) (.t 162) (.c (.bool false))), 38, [24, 23, 2, 1, 0, 22, 12, 11, 4, 3, 10, 6, 5, 9, 8, 7, 21, 15, 14, 13, 20, 17, 16, 19, 18, 37, 31, 30, 26, 25, 29, 28, 27, 36, 33, 32, 35, 34]⟩, ⟨(some 2), .none, (.mov (.t 163)), 39, [38, 24, 23, 2, 1, 0, 22, 12, 11, 4, 3, 10, 6, 5, 9, 8, 7, 21, 15, 14, 13, 20, 17, 16, 19, 18, 37, 31, 30, 26, 25, 29, 28, 27, 36, 33, 32, 35, 34]⟩]) .ret))))))))))))))))))), [(.t 2)]⟩
theorem k10 : EE.fns 10 = some c10 := by kernel_rfl
def c24 : CF := ⟨6, (.seq (.reg false [⟨(some 2), .none, (.mov (.c (.bool false))), 0, []⟩]) (.seq (.reg false [⟨(some 3), .none, (.mov (.t 0)), 0, []⟩, ⟨(some 4), .none, (.lenS (.t 3)), 1, []⟩, ⟨(some 5), .none, (.bin .gtr (.t 4) (.c (.int .i64 1048576))), 2, []⟩, ⟨(some 2), .none, (.mov (.t 5)), 3, []⟩]) .ret)), [(.t 2)]⟩
theorem k24 : EE.fns 24 = some c24 := by kernel_rfl
def c26 : CF := ⟨16, (.seq (.reg false [⟨(some 2), .none, (.mov (.c (.string ⟨#[]⟩))), 0, []⟩]) (.seq (.reg false [⟨(some 5), .none, (.mov (.t 0)), 0, []⟩, ⟨(some 6), .none, (.call 71 [(.t 5)]), 1, []⟩, ⟨(some 3), .none, (.mov (.t 6)), 2, []⟩]) (.seq (.reg false [⟨(some 7), .none, (.mov (.t 3)), 0, []⟩, ⟨(some 8), .none, (.call 72 [(.t 7)]), 1, []⟩, ⟨(some 9), .none, (.call 18 [(.t 8)]), 2, []⟩, ⟨(some 4), .none, (.mov (.t 9)), 3, []⟩]) (.seq (.seq (.reg false [⟨(some 10), .none, (.mov (.t 3)), 0, []⟩, ⟨(some 11), .none, (.call 73 [(.t 10), (.c (.int .i64 3))]), 1, []⟩]) (.cond (.t 11) (.seq (.reg false [⟨(some 12), .none, (.mov (.t 3)), 0, []⟩, ⟨(some 13), .none, (.mov (.t 4)), 1, []⟩, ⟨(some 14), .none, (.call 74 [(.t 12), (.t 13)]), 2, []⟩, ⟨(some 2), .none, (.mov (.t 14)), 3, []⟩]) .ret) .skip)) (.seq (.reg false [⟨(some 15), .none, (.mov (.t 4)), 0, []⟩, ⟨(some 2), .none, (.mov (.t 15)), 1, []⟩]) .ret))))), [(.t 2)]⟩
theorem k26 : EE.fns 26 = some c26 := by kernel_rfl
def c38 : CF := ⟨66, (.seq (.reg false [⟨(some 2), .none, (.newV [(.int .i64 0), (.slice .none 0 0)]), 0, []⟩, ⟨(some 3), .none, (.mov (.c (.slice .none 0 0))), 1, []⟩]) (.seq (.reg false [⟨(some 14), .none, (.mov (.t 0)), 0, []⟩, ⟨(some 15), .none, (.call 71 [(.t 14)]), 1, []⟩, ⟨(some 4), .none, (.mov (.t 15)), 2, []⟩]) (.seq (.reg false [⟨(some 16), .none, (.mkO 0 5 [(.int .i64 0), (.int .i64 0), (.int .i64 0), (.int .i64 0), (.bool false)] []), 0, []⟩, ⟨(some 5), .none, (.mov (.t 16)), 1, []⟩]) (.seq (.reg false [⟨(some 17), .none, (.build [(.int .i64 0), (.slice .none 0 0)] []), 0, []⟩, ⟨(some 6), .none, (.newV [(.int .i64 0), (.slice .none 0 0)]), 1, []⟩, ⟨.none, .none, (.store 2 (.t 6) (.t 17)), 2, []⟩]) (.seq (.reg false [⟨(some 18), .none, (.mov (.t 4)), 0, []⟩, ⟨(some 19), .none, (.call 85 [(.t 18), (.c (.int .i64 14))]), 1, []⟩, ⟨(some 7), .none, (.mov (.t 19)), 2, []⟩]) (.seq (.seq (.reg false [⟨(some 8), .none, (.mov (.c (.int .i64 0))), 0, []⟩]) (.block 0 (.loop (.seq (.seq (.reg false [⟨(some 20), .none, (.mov (.t 8)), 0, []⟩, ⟨(some 21), .none, (.mov (.t 7)), 1, []⟩, ⟨(some 22), .none, (.lenS (.t 21)), 2, []⟩, ⟨(some 23), .none, (.bin .lss (.t 20) (.t 22)), 3, []⟩]) (.cond (.t 23) .skip (.exit 0))) (.seq (.block 1 (.seq (.reg true [⟨(some 27), .none, (.load 2 true (.t 6)), 0, []⟩, ⟨(some 28), .none, (.mov (.t 7)), 1, []⟩, ⟨(some 29), .none, (.mov (.t 8)), 2, []⟩, ⟨(some 30), .none, (.iadr 5 (.t 28) (.t 29)), 3, [1, 2]⟩, ⟨(some 31), .none, (.load 5 true (.t 30)), 4, [3, 1, 2]⟩, ⟨(some 32), .none, (.call 27 [(.t 27), (.t 31)]), 5, [0, 4, 3, 1, 2]⟩, ⟨(some 26), .none, (.mov (.t 32)), 6, [5, 0, 4, 3, 1, 2]⟩, ⟨(some 33), .none, (.ext (.t 26) 0), 7, [6, 5, 0, 4, 3, 1, 2]⟩, ⟨(some 34), .none, (.ext (.t 26) 1), 8, [6, 5, 0, 4, 3, 1, 2]⟩, ⟨(some 9), .none, (.newV [(.int .i64 0), (.slice .none 0 0)]), 9, []⟩, ⟨.none, .none, (.store 2 (.t 9) (.t 33)), 10, [9, 7, 6, 5, 0, 4, 3, 1, 2]⟩, ⟨(some 10), .none, (.mov (.t 34)), 11, [8, 6, 5, 0, 4, 3, 1, 2, 10, 9, 7]⟩]) (.seq (.reg false [⟨(some 35), .none, (.mov (.t 10)), 0, []⟩]) (.cond (.t 35) (.seq (.reg false [⟨(some 36), .none, (.mov (.t 5)), 0, []⟩, ⟨(some 37), .none, (.mov (.t 7)), 1, []⟩, ⟨(some 38), .none, (.mov (.t 8)), 2, []⟩, ⟨(some 39), .none, (.iadr 5 (.t 37) (.t 38)), 3, []⟩, ⟨(some 40), .none, (.load 5 true (.t 39)), 4, []⟩, ⟨(some 41), .none, (.mkV 1 5 [(.int .i64 0), (.int .i64 0), (.int .i64 0), (.int .i64 0), (.bool false)] [(0, (.t 40))]), 5, []⟩, ⟨(some 42), .none, (.app 5 40 (.t 36) (.t 41)), 6, []⟩, ⟨(some 5), .none, (.mov (.t 42)), 7, []⟩]) (.reg false [⟨(some 43), .none, (.load 2 true (.t 9)), 0, []⟩, ⟨.none, .none, (.store 2 (.t 6) (.t 43)), 1, []⟩])) .skip)))) (.reg false [⟨(some 24), .none, (.mov (.t 8)), 0, []⟩, ⟨(some 25), .none, (.bin .add (.t 24) (.c (.int .i64 1))), 1, []⟩, ⟨(some 8), .none, (.mov (.t 25)), 2, []⟩])))))) (.seq (.reg false [⟨(some 11), .none, (.mov (.c (.int .i64 0))), 0, []⟩]) (.seq (.seq (.reg false [⟨(some 44), .none, (.mov (.t 5)), 0, []⟩, ⟨(some 45), .none, (.lenS (.t 44)), 1, []⟩, ⟨(some 46), .none, (.bin .gtr (.t 45) (.c (.int .i64 0))), 2, []⟩]) (.cond (.t 46) (.reg false [⟨(some 47), .none, (.mov (.t 4)), 0, []⟩, ⟨(some 48), .none, (.mov (.t 5)), 1, []⟩, ⟨(some 49), .none, (.lenS (.t 48)), 2, []⟩, ⟨(some 50), .none, (.bin .add (.t 49) (.c (.int .i64 1))), 3, []⟩, ⟨(some 51), .none, (.call 86 [(.t 47), (.t 50)]), 4, []⟩, ⟨(some 11), .none, (.mov (.t 51)), 5, []⟩]) .skip)) (.seq (.reg false [⟨(some 53), .none, (.build [(.int .i64 0), (.slice .none 0 0)] []), 0, []⟩, ⟨(some 54), .none, (.mov (.t 5)), 1, []⟩, ⟨(some 55), .none, (.mov (.t 11)), 2, []⟩, ⟨(some 56), .none, (.slc 5 (.t 54) .none (.some (.t 55))), 3, []⟩, ⟨(some 57), .none, (.call 31 [(.t 53), (.t 56)]), 4, []⟩, ⟨(some 52), .none, (.mov (.t 57)), 5, []⟩, ⟨(some 58), .none, (.ext (.t 52) 0), 6, []⟩, ⟨(some 59), .none, (.ext (.t 52) 1), 7, []⟩, ⟨(some 12), .none, (.newV [(.int .i64 0), (.slice .none 0 0)]), 8, []⟩, ⟨.none, .none, (.store 2 (.t 12) (.t 58)), 9, []⟩, ⟨(some 13), .none, (.mov (.t 59)), 10, []⟩]) (.seq (.seq (.reg false [⟨(some 60), .none, (.mov (.t 4)), 0, []⟩, ⟨(some 61), .none, (.call 73 [(.t 60), (.c (.int .i64 5))]), 1, []⟩]) (.cond (.t 61) (.reg false [⟨(some 62), .none, (.mov (.t 4)), 0, []⟩, ⟨(some 63), .none, (.call 72 [(.t 62)]), 1, []⟩, ⟨.none, .none, (.store 2 (.t 12) (.t 63)), 2, []⟩]) .skip)) (.seq (.reg false [⟨(some 64), .none, (.load 2 true (.t 12)), 0, []⟩, ⟨(some 65), .none, (.mov (.t 5)), 1, []⟩, ⟨.none, .none, (.store 2 (.t 2) (.t 64)), 2, []⟩, ⟨(some 3), .none, (.mov (.t 65)), 3, []⟩]) .ret))))))))))), [(.cell 2 2 true), (.t 3)]⟩
theorem k38 : EE.fns 38 = some c38 := by kernel_rfl
def c39 : CF := ⟨21, (.seq (.reg false [⟨(some 4), .none, (.mov (.c (.int .i64 0))), 0, []⟩]) (.seq (.seq (.reg false [⟨(some 5), .none, (.mov (.t 1)), 0, []⟩, ⟨(some 6), .none, (.mov (.t 0)), 1, []⟩, ⟨(some 7), .none, (.lenS (.t 6)), 2, []⟩, ⟨(some 8), .none, (.bin .lss (.t 5) (.t 7)), 3, []⟩]) (.cond (.t 8) (.seq (.reg false [⟨(some 9), .none, (.mov (.t 0)), 0, []⟩, ⟨(some 10), .none, (.mov (.t 1)), 1, []⟩, ⟨(some 11), .none, (.iadr 1 (.t 9) (.t 10)), 2, []⟩, ⟨(some 12), .none, (.load 1 false (.t 11)), 3, []⟩, ⟨(some 13), .none, (.toInt .i64 (.t 12)), 4, []⟩, ⟨(some 4), .none, (.mov (.t 13)), 5, []⟩]) .ret) .skip)) (.seq (.reg false [⟨(some 14), .none, (.mov (.t 1)), 0, []⟩, ⟨(some 15), .none, (.bin .mul (.t 14) (.c (.int .i64 37))), 1, []⟩, ⟨(some 16), .none, (.mov (.t 0)), 2, []⟩, ⟨(some 17), .none, (.lenS (.t 16)), 3, []⟩, ⟨(some 18), .none, (.bin .mul (.t 17) (.c (.int .i64 11))), 4, []⟩, ⟨(some 19), .none, (.bin .add (.t 15) (.t 18)), 5, []⟩, ⟨(some 20), .none, (.bin .rem (.t 19) (.c (.int .i64 256))), 6, []⟩, ⟨(some 4), .none, (.mov (.t 20)), 7, []⟩]) .ret))), [(.t 4)]⟩
theorem k39 : EE.fns 39 = some c39 := by kernel_rfl
def c40 : CF := ⟨13, (.seq (.reg false [⟨(some 2), .none, (.newV [(.int .i64 0), (.slice .none 0 0)]), 0, []⟩, ⟨(some 3), .none, (.newV [(.int .i64 0), (.int .i64 0), (.int .i64 0), (.int .i64 0), (.bool false)]), 1, []⟩]) (.seq (.reg false [⟨(some 6), .none, (.mov (.t 0)), 0, []⟩, ⟨(some 7), .none, (.call 71 [(.t 6)]), 1, []⟩, ⟨(some 4), .none, (.mov (.t 7)), 2, []⟩]) (.seq (.reg false [⟨(some 8), .none, (.mov (.t 4)), 0, []⟩, ⟨(some 9), .none, (.call 87 [(.t 8)]), 1, []⟩, ⟨(some 5), .none, (.newV [(.int .i64 0), (.int .i64 0), (.int .i64 0), (.int .i64 0), (.bool false)]), 2, []⟩, ⟨.none, .none, (.store 5 (.t 5) (.t 9)), 3, []⟩]) (.seq (.reg true [⟨(some 10), .none, (.mov (.t 4)), 0, []⟩, ⟨(some 11), .none, (.call 72 [(.t 10)]), 1, [0]⟩, ⟨(some 12), .none, (.load 5 true (.t 5)), 2, []⟩, ⟨.none, .none, (.store 2 (.t 2) (.t 11)), 3, [1, 0]⟩, ⟨.none, .none, (.store 5 (.t 3) (.t 12)), 4, [2, 3, 1, 0]⟩]) .ret)))), [(.cell 2 2 true), (.cell 3 5 true)]⟩
theorem k40 : EE.fns 40 = some c40 := by kernel_rfl
def c71 : CF := ⟨32, (.seq (.reg false [⟨(some 2), .none, (.mov (.c (.pointer .none))), 0, []⟩]) (.seq (.reg false [⟨(some 5), .none, (.mov (.t 0)), 0, []⟩, ⟨(some 6), .none, (.lenS (.t 5)), 1, []⟩, ⟨(some 7), .none, (.bin .add (.c (.int .i64 10101)) (.t 6)), 2, []⟩, ⟨(some 3), .none, (.mov (.t 7)), 3, []⟩]) (.seq (.seq (.reg false [⟨(some 4), .none, (.mov (.c (.int .i64 0))), 0, []⟩]) (.block 0 (.loop (.seq (.seq (.reg false [⟨(some 8), .none, (.mov (.t 4)), 0, []⟩, ⟨(some 9), .none, (.mov (.t 0)), 1, []⟩, ⟨(some 10), .none, (.lenS (.t 9)), 2, []⟩, ⟨(some 11), .none, (.bin .lss (.t 8) (.t 10)), 3, []⟩, ⟨(some 12), .none, (.mov (.t 11)), 4, []⟩, ⟨(some 13), (.some (12, true)), (.mov (.t 4)), 5, []⟩, ⟨(some 14), (.some (12, true)), (.bin .lss (.t 13) (.c (.int .i64 4000))), 6, []⟩, ⟨(some 15), .none, (.pick (.t 12) (.t 14) (.c (.bool false))), 7, []⟩]) (.cond (.t 15) .skip (.exit 0))) (.seq (.block 1 (.reg false [⟨(some 18), .none, (.mov (.t 3)), 0, []⟩, ⟨(some 19), .none, (.bin .mul (.t 18) (.c (.int .i64 131))), 1, []⟩, ⟨(some 20), .none, (.mov (.t 0)), 2, []⟩, ⟨(some 21), .none, (.mov (.t 4)), 3, []⟩, ⟨(some 22), .none, (.iadr 1 (.t 20) (.t 21)), 4, []⟩, ⟨(some 23), .none, (.load 1 false (.t 22)), 5, []⟩, ⟨(some 24), .none, (.toInt .i64 (.t 23)), 6, []⟩, ⟨(some 25), .none, (.bin .add (.t 19) (.t 24)), 7, []⟩, ⟨(some 26), .none, (.bin .add (.t 25) (.c (.int .i64 7))), 8, []⟩, ⟨(some 27), .none, (.bin .and (.t 26) (.c (.int .i64 1073741823))), 9, []⟩, ⟨(some 3), .none, (.mov (.t 27)), 10, []⟩])) (.reg false [⟨(some 16), .none, (.mov (.t 4)), 0, []⟩, ⟨(some 17), .none, (.bin .add (.t 16) (.c (.int .i64 1))), 1, []⟩, ⟨(some 4), .none, (.mov (.t 17)), 2, []⟩])))))) (.seq (.reg false [⟨(some 28), .none, (.mov (.t 0)), 0, []⟩, ⟨(some 29), .none, (.mov (.t 3)), 1, []⟩, ⟨(some 30), .none, (.build [(.slice .none 0 0), (.int .i64 0), (.int .i64 0)] [(0, (1, (.t 28))), (2, (1, (.t 29)))]), 2, []⟩, ⟨(some 31), .none, (.boxO (.t 30)), 3, []⟩, ⟨(some 2), .none, (.mov (.t 31)), 4, []⟩]) .ret)))), [(.t 2)]⟩
theorem k71 : EE.fns 71 = some c71 := by kernel_rfl
def c72 : CF := ⟨47, (.seq (.reg false [⟨(some 2), .none, (.newV [(.int .i64 0), (.slice .none 0 0)]), 0, []⟩]) (.seq (.reg false [⟨(some 7), .none, (.build [(.int .i64 0), (.slice .none 0 0)] []), 0, []⟩, ⟨(some 8), .none, (.mov (.t 0)), 1, []⟩, ⟨(some 9), .none, (.call 85 [(.t 8), (.c (.int .i64 20))]), 2, []⟩, ⟨(some 10), .none, (.call 31 [(.t 7), (.t 9)]), 3, []⟩, ⟨(some 6), .none, (.mov (.t 10)), 4, []⟩, ⟨(some 11), .none, (.ext (.t 6) 0), 5, []⟩, ⟨(some 12), .none, (.ext (.t 6) 1), 6, []⟩, ⟨(some 3), .none, (.newV [(.int .i64 0), (.slice .none 0 0)]), 7, []⟩, ⟨.none, .none, (.store 2 (.t 3) (.t 11)), 8, []⟩, ⟨(some 4), .none, (.mov (.t 12)), 9, []⟩]) (.seq (.seq (.reg false [⟨(some 13), .none, (.mov (.t 0)), 0, []⟩, ⟨(some 14), .none, (.call 73 [(.t 13), (.c (.int .i64 10))]), 1, []⟩]) (.cond (.t 14) (.seq (.reg false [⟨(some 15), .none, (.mov (.t 0)), 0, []⟩, ⟨(some 16), .none, (.call 86 [(.t 15), (.c (.int .i64 3))]), 1, []⟩]) (.block 0 (.seq (.reg false [⟨(some 31), .none, (.bin .eql (.t 16) (.c (.int .i64 0))), 0, []⟩, ⟨(some 30), .none, (.mov (.t 31)), 1, []⟩]) (.cond (.t 30) (.reg false [⟨(some 32), .none, (.mov (.t 0)), 0, []⟩, ⟨(some 33), .none, (.mkO 3 1 [(.int .i64 0)] [(0, (.c (.int .i64 (-1)))), (1, (.c (.int .i64 100000))), (2, (.c (.int .i64 100001)))]), 1, []⟩, ⟨(some 34), .none, (.call 105 [(.t 32), (.t 33)]), 2, []⟩, ⟨(some 35), .none, (.fadr 0 (.t 3)), 3, []⟩, ⟨.none, .none, (.store 1 (.t 35) (.t 34)), 4, []⟩]) (.seq (.reg false [⟨(some 37), .none, (.bin .eql (.t 16) (.c (.int .i64 1))), 0, []⟩, ⟨(some 36), .none, (.mov (.t 37)), 1, []⟩]) (.cond (.t 36) (.reg true [⟨(some 38), .none, (.fadr 1 (.t 3)), 0, []⟩, ⟨(some 39), .none, (.load 1 false (.t 38)), 1, [0]⟩, ⟨(some 40), .none, (.mov (.t 0)), 2, []⟩, ⟨(some 41), .none, (.call 86 [(.t 40), (.c (.int .i64 9))]), 3, [2]⟩, ⟨(some 42), .none, (.build [(.int .i64 0), (.int .i64 0), (.int .i64 0), (.bool false)] [(0, (1, (.t 41))), (1, (1, (.c (.int .i64 1)))), (2, (1, (.c (.int .i64 1))))]), 4, [3, 2]⟩, ⟨(some 43), .none, (.mkV 1 4 [(.int .i64 0), (.int .i64 0), (.int .i64 0), (.bool false)] [(0, (.t 42))]), 5, [4, 3, 2]⟩, ⟨(some 44), .none, (.app 4 32 (.t 39) (.t 43)), 6, [1, 0, 5, 4, 3, 2]⟩, ⟨(some 45), .none, (.fadr 1 (.t 3)), 7, [0, 1, 2, 3, 4, 5, 6]⟩, ⟨.none, .none, (.store 1 (.t 45) (.t 44)), 8, [7, 0, 1, 2, 3, 4, 5, 6]⟩]) (.seq (.reg false [⟨(some 5), .none, (.mov (.c (.int .i64 50))), 0, []⟩]) (.block 1 (.loop (.seq (.seq (.reg false [⟨(some 17), .none, (.fadr 1 (.t 3)), 0, []⟩, ⟨(some 18), .none, (.load 1 false (.t 17)), 1, []⟩, ⟨(some 19), .none, (.lenS (.t 18)), 2, []⟩, ⟨(some 20), .none, (.bin .lss (.t 19) (.c (.int .i64 12))), 3, []⟩]) (.cond (.t 20) .skip (.exit 1))) (.seq (.block 2 (.reg false [⟨(some 23), .none, (.fadr 1 (.t 3)), 0, []⟩, ⟨(some 24), .none, (.load 1 false (.t 23)), 1, []⟩, ⟨(some 25), .none, (.mov (.t 5)), 2, []⟩, ⟨(some 26), .none, (.build [(.int .i64 0), (.int .i64 0), (.int .i64 0), (.bool false)] [(0, (1, (.t 25))), (1, (1, (.c (.int .i64 1)))), (2, (1, (.c (.int .i64 1))))]), 3, []⟩, ⟨(some 27), .none, (.mkV 1 4 [(.int .i64 0), (.int .i64 0), (.int .i64 0), (.bool false)] [(0, (.t 26))]), 4, []⟩, ⟨(some 28), .none, (.app 4 32 (.t 24) (.t 27)), 5, []⟩, ⟨(some 29), .none, (.fadr 1 (.t 3)), 6, []⟩, ⟨.none, .none, (.store 1 (.t 29) (.t 28)), 7, []⟩])) (.reg false [⟨(some 21), .none, (.mov (.t 5)), 0, []⟩, ⟨(some 22), .none, (.bin .add (.t 21) (.c (.int .i64 1))), 1, []⟩, ⟨(some 5), .none, (.mov (.t 22)), 2, []⟩])))))))))))) .skip)) (.seq (.reg false [⟨(some 46), .none, (.load 2 true (.t 3)), 0, []⟩, ⟨.none, .none, (.store 2 (.t 2) (.t 46)), 1, []⟩]) .ret)))), [(.cell 2 2 true)]⟩
theorem k72 : EE.fns 72 = some c72 := by kernel_rfl
def c73 : CF := ⟨9, (.seq (.reg false [⟨(some 4), .none, (.mov (.c (.bool false))), 0, []⟩]) (.seq (.reg false [⟨(some 5), .none, (.mov (.t 0)), 0, []⟩, ⟨(some 6), .none, (.mov (.t 1)), 1, []⟩, ⟨(some 7), .none, (.call 86 [(.t 5), (.t 6)]), 2, []⟩, ⟨(some 8), .none, (.bin .eql (.t 7) (.c (.int .i64 0))), 3, []⟩, ⟨(some 4), .none, (.mov (.t 8)), 4, []⟩]) .ret)), [(.t 4)]⟩
theorem k73 : EE.fns 73 = some c73 := by kernel_rfl
def c85 : CF := ⟨21, (.seq (.reg false [⟨(some 4), .none, (.mov (.c (.slice .none 0 0))), 0, []⟩]) (.seq (.reg false [⟨(some 7), .none, (.mkO 0 5 [(.int .i64 0), (.int .i64 0), (.int .i64 0), (.int .i64 0), (.bool false)] []), 0, []⟩, ⟨(some 5), .none, (.mov (.t 7)), 1, []⟩]) (.seq (.seq (.reg false [⟨(some 8), .none, (.mov (.t 0)), 0, []⟩, ⟨(some 9), .none, (.mov (.t 1)), 1, []⟩, ⟨(some 10), .none, (.call 86 [(.t 8), (.t 9)]), 2, []⟩, ⟨(some 6), .none, (.mov (.t 10)), 3, []⟩]) (.block 0 (.loop (.seq (.seq (.reg false [⟨(some 11), .none, (.mov (.t 6)), 0, []⟩, ⟨(some 12), .none, (.bin .gtr (.t 11) (.c (.int .i64 0))), 1, []⟩]) (.cond (.t 12) .skip (.exit 0))) (.seq (.block 1 (.reg false [⟨(some 15), .none, (.mov (.t 5)), 0, []⟩, ⟨(some 16), .none, (.mov (.t 0)), 1, []⟩, ⟨(some 17), .none, (.call 87 [(.t 16)]), 2, []⟩, ⟨(some 18), .none, (.mkV 1 5 [(.int .i64 0), (.int .i64 0), (.int .i64 0), (.int .i64 0), (.bool false)] [(0, (.t 17))]), 3, []⟩, ⟨(some 19), .none, (.app 5 40 (.t 15) (.t 18)), 4, []⟩, ⟨(some 5), .none, (.mov (.t 19)), 5, []⟩])) (.reg false [⟨(some 13), .none, (.mov (.t 6)), 0, []⟩, ⟨(some 14), .none, (.bin .sub (.t 13) (.c (.int .i64 1))), 1, []⟩, ⟨(some 6), .none, (.mov (.t 14)), 2, []⟩])))))) (.seq (.reg false [⟨(some 20), .none, (.mov (.t 5)), 0, []⟩, ⟨(some 4), .none, (.mov (.t 20)), 1, []⟩]) .ret)))), [(.t 4)]⟩
theorem k85 : EE.fns 85 = some c85 := by kernel_rfl
def c86 : CF := ⟨37, (.seq (.reg false [⟨(some 4), .none, (.mov (.c (.int .i64 0))), 0, []⟩]) (.seq (.seq (.reg false [⟨(some 9), .none, (.mov (.t 1)), 0, []⟩, ⟨(some 10), .none, (.bin .leq (.t 9) (.c (.int .i64 0))), 1, []⟩]) (.cond (.t 10) (.seq (.reg false [⟨(some 4), .none, (.mov (.c (.int .i64 0))), 0, []⟩]) .ret) .skip)) (.seq (.seq (.reg false [⟨(some 11), .none, (.mov (.t 1)), 0, []⟩, ⟨(some 12), .none, (.bin .leq (.t 11) (.c (.int .i64 256))), 1, []⟩]) (.cond (.t 12) (.seq (.reg false [⟨(some 13), .none, (.mov (.t 0)), 0, []⟩, ⟨(some 14), .none, (.call 107 [(.t 13)]), 1, []⟩, ⟨(some 15), .none, (.mov (.t 1)), 2, []⟩, ⟨(some 16), .none, (.bin .rem (.t 14) (.t 15)), 3, []⟩, ⟨(some 4), .none, (.mov (.t 16)), 4, []⟩]) .ret) .skip)) (.seq (.reg false [⟨(some 17), .none, (.mov (.t 0)), 0, []⟩, ⟨(some 18), .none, (.call 107 [(.t 17)]), 1, []⟩, ⟨(some 5), .none, (.mov (.t 18)), 2, []⟩]) (.seq (.reg false [⟨(some 19), .none, (.mov (.t 0)), 0, []⟩, ⟨(some 20), .none, (.call 107 [(.t 19)]), 1, []⟩, ⟨(some 6), .none, (.mov (.t 20)), 2, []⟩]) (.seq (.reg false [⟨(some 21), .none, (.mov (.t 0)), 0, []⟩, ⟨(some 22), .none, (.call 107 [(.t 21)]), 1, []⟩, ⟨(some 7), .none, (.mov (.t 22)), 2, []⟩]) (.seq (.reg false [⟨(some 23), .none, (.mov (.t 0)), 0, []⟩, ⟨(some 24), .none, (.call 107 [(.t 23)]), 1, []⟩, ⟨(some 8), .none, (.mov (.t 24)), 2, []⟩]) (.seq (.reg false [⟨(some 25), .none, (.mov (.t 5)), 0, []⟩, ⟨(some 26), .none, (.bin .mul (.t 25) (.c (.int .i64 16777216))), 1, []⟩, ⟨(some 27), .none, (.mov (.t 6)), 2, []⟩, ⟨(some 28), .none, (.bin .mul (.t 27) (.c (.int .i64 65536))), 3, []⟩, ⟨(some 29), .none, (.bin .add (.t 26) (.t 28)), 4, []⟩, ⟨(some 30), .none, (.mov (.t 7)), 5, []⟩, ⟨(some 31), .none, (.bin .mul (.t 30) (.c (.int .i64 256))), 6, []⟩, ⟨(some 32), .none, (.bin .add (.t 29) (.t 31)), 7, []⟩, ⟨(some 33), .none, (.mov (.t 8)), 8, []⟩, ⟨(some 34), .none, (.bin .add (.t 32) (.t 33)), 9, []⟩, ⟨(some 35), .none, (.mov (.t 1)), 10, []⟩, ⟨(some 36), .none, (.bin .rem (.t 34) (.t 35)), 11, []⟩, ⟨(some 4), .none, (.mov (.t 36)), 12, []⟩]) .ret)))))))), [(.t 4)]⟩
theorem k86 : EE.fns 86 = some c86 := by kernel_rfl
def c87 : CF := ⟨44, (.seq (.reg false [⟨(some 2), .none, (.newV [(.int .i64 0), (.int .i64 0), (.int .i64 0), (.int .i64 0), (.bool false)]), 0, []⟩]) (.seq (.reg false [⟨(some 4), .none, (.mov (.t 0)), 0, []⟩, ⟨(some 5), .none, (.call 86 [(.t 4), (.c (.int .i64 3))]), 1, []⟩, ⟨(some 6), .none, (.bin .add (.c (.int .i64 1)) (.t 5)), 2, []⟩, ⟨(some 7), .none, (.mov (.t 0)), 3, []⟩, ⟨(some 8), .none, (.call 86 [(.t 7), (.c (.int .i64 6))]), 4, []⟩, ⟨(some 9), .none, (.mov (.t 0)), 5, []⟩, ⟨(some 10), .none, (.call 86 [(.t 9), (.c (.int .i64 9))]), 6, []⟩, ⟨(some 11), .none, (.bin .add (.c (.int .i64 1)) (.t 10)), 7, []⟩, ⟨(some 12), .none, (.mov (.t 0)), 8, []⟩, ⟨(some 13), .none, (.call 86 [(.t 12), (.c (.int .i64 9))]), 9, []⟩, ⟨(some 14), .none, (.bin .add (.c (.int .i64 1)) (.t 13)), 10, []⟩, ⟨(some 15), .none, (.build [(.int .i64 0), (.int .i64 0), (.int .i64 0), (.bool false)] [(0, (1, (.t 8))), (1, (1, (.t 11))), (2, (1, (.t 14)))]), 11, []⟩, ⟨(some 16), .none, (.build [(.int .i64 0), (.int .i64 0), (.int .i64 0), (.int .i64 0), (.bool false)] [(0, (1, (.t 6))), (1, (4, (.t 15)))]), 12, []⟩, ⟨(some 3), .none, (.newV [(.int .i64 0), (.int .i64 0), (.int .i64 0), (.int .i64 0), (.bool false)]), 13, []⟩, ⟨.none, .none, (.store 5 (.t 3) (.t 16)), 14, []⟩]) (.seq (.seq (.reg false [⟨(some 17), .none, (.mov (.t 0)), 0, []⟩, ⟨(some 18), .none, (.call 73 [(.t 17), (.c (.int .i64 2))]), 1, []⟩]) (.cond (.t 18) (.reg false [⟨(some 19), .none, (.fadr 0 (.t 3)), 0, []⟩, ⟨.none, .none, (.store 1 (.t 19) (.c (.int .i64 1))), 1, []⟩]) .skip)) (.seq (.seq (.reg false [⟨(some 20), .none, (.mov (.t 0)), 0, []⟩, ⟨(some 21), .none, (.call 73 [(.t 20), (.c (.int .i64 12))]), 1, []⟩]) (.cond (.t 21) (.seq (.reg false [⟨(some 22), .none, (.mov (.t 0)), 0, []⟩, ⟨(some 23), .none, (.call 86 [(.t 22), (.c (.int .i64 4))]), 1, []⟩]) (.block 0 (.seq (.reg false [⟨(some 27), .none, (.bin .eql (.t 23) (.c (.int .i64 0))), 0, []⟩, ⟨(some 26), .none, (.mov (.t 27)), 1, []⟩]) (.cond (.t 26) (.reg false [⟨(some 28), .none, (.mov (.t 0)), 0, []⟩, ⟨(some 29), .none, (.mkO 2 1 [(.int .i64 0)] [(0, (.c (.int .i64 0))), (1, (.c (.int .i64 4)))]), 1, []⟩, ⟨(some 30), .none, (.call 105 [(.t 28), (.t 29)]), 2, []⟩, ⟨(some 31), .none, (.fadr 0 (.t 3)), 3, []⟩, ⟨.none, .none, (.store 1 (.t 31) (.t 30)), 4, []⟩]) (.seq (.reg false [⟨(some 33), .none, (.bin .eql (.t 23) (.c (.int .i64 1))), 0, []⟩, ⟨(some 32), .none, (.mov (.t 33)), 1, []⟩]) (.cond (.t 32) (.reg false [⟨(some 34), .none, (.mov (.t 0)), 0, []⟩, ⟨(some 35), .none, (.mkO 3 1 [(.int .i64 0)] [(0, (.c (.int .i64 (-1)))), (1, (.c (.int .i64 99))), (2, (.c (.int .i64 100)))]), 1, []⟩, ⟨(some 36), .none, (.call 105 [(.t 34), (.t 35)]), 2, []⟩, ⟨(some 37), .none, (.fadr 1 (.t 3)), 3, []⟩, ⟨(some 38), .none, (.fadr 0 (.t 37)), 4, []⟩, ⟨.none, .none, (.store 1 (.t 38) (.t 36)), 5, []⟩]) (.seq (.reg false [⟨(some 40), .none, (.bin .eql (.t 23) (.c (.int .i64 2))), 0, []⟩, ⟨(some 39), .none, (.mov (.t 40)), 1, []⟩]) (.cond (.t 39) (.reg false [⟨(some 41), .none, (.fadr 1 (.t 3)), 0, []⟩, ⟨(some 42), .none, (.fadr 3 (.t 41)), 1, []⟩, ⟨.none, .none, (.store 1 (.t 42) (.c (.bool true))), 2, []⟩]) (.reg false [⟨(some 24), .none, (.fadr 1 (.t 3)), 0, []⟩, ⟨(some 25), .none, (.fadr 1 (.t 24)), 1, []⟩, ⟨.none, .none, (.store 1 (.t 25) (.c (.int .i64 0))), 2, []⟩]))))))))) .skip)) (.seq (.reg false [⟨(some 43), .none, (.load 5 true (.t 3)), 0, []⟩, ⟨.none, .none, (.store 5 (.t 2) (.t 43)), 1, []⟩]) .ret))))), [(.cell 2 5 true)]⟩
theorem k87 : EE.fns 87 = some c87 := by kernel_rfl
def c105 : CF := ⟨12, (.seq (.reg false [⟨(some 4), .none, (.mov (.c (.int .i64 0))), 0, []⟩]) (.seq (.reg false [⟨(some 5), .none, (.mov (.t 1)), 0, []⟩, ⟨(some 6), .none, (.mov (.t 0)), 1, []⟩, ⟨(some 7), .none, (.mov (.t 1)), 2, []⟩, ⟨(some 8), .none, (.lenS (.t 7)), 3, []⟩, ⟨(some 9), .none, (.call 86 [(.t 6), (.t 8)]), 4, []⟩, ⟨(some 10), .none, (.iadr 1 (.t 5) (.t 9)), 5, []⟩, ⟨(some 11), .none, (.load 1 false (.t 10)), 6, []⟩, ⟨(some 4), .none, (.mov (.t 11)), 7, []⟩]) .ret)), [(.t 4)]⟩
theorem k105 : EE.fns 105 = some c105 := by kernel_rfl
def c107 : CF := ⟨58, (.seq (.reg false [⟨(some 2), .none, (.mov (.c (.int .i64 0))), 0, []⟩]) (.seq (.reg false [⟨(some 4), .none, (.mov (.t 0)), 0, []⟩, ⟨(some 5), .none, (.mov (.t 0)), 1, []⟩, ⟨(some 6), .none, (.nilc (.t 5)), 2, []⟩, ⟨(some 7), .none, (.fadr 2 (.t 6)), 3, []⟩, ⟨(some 8), .none, (.load 1 false (.t 7)), 4, []⟩, ⟨(some 9), .none, (.bin .mul (.t 8) (.c (.int .i64 6364136223846793005))), 5, []⟩, ⟨(some 10), .none, (.bin .add (.t 9) (.c (.int .i64 1442695040888963407))), 6, []⟩, ⟨(some 11), .none, (.nilc (.t 4)), 7, []⟩, ⟨(some 12), .none, (.fadr 2 (.t 11)), 8, []⟩, ⟨.none, .none, (.store 1 (.t 12) (.t 10)), 9, []⟩]) (.seq (.reg true [⟨(some 13), .none, (.mov (.t 0)), 0, []⟩, ⟨(some 14), .none, (.nilc (.t 13)), 1, [0]⟩, ⟨(some 15), .none, (.fadr 2 (.t 14)), 2, [1, 0]⟩, ⟨(some 16), .none, (.load 1 false (.t 15)), 3, [2, 1, 0]⟩, ⟨(some 17), .none, (.bin .shr (.t 16) (.c (.int .u64 33))), 4, [3, 2, 1, 0]⟩, ⟨(some 18), .none, (.mov (.t 0)), 5, []⟩, ⟨(some 19), .none, (.nilc (.t 18)), 6, [5]⟩, ⟨(some 20), .none, (.fadr 2 (.t 19)), 7, [6, 5]⟩, ⟨(some 21), .none, (.load 1 false (.t 20)), 8, [7, 6, 5]⟩, ⟨(some 22), .none, (.bin .shr (.t 21) (.c (.int .u64 45))), 9, [8, 7, 6, 5]⟩, ⟨(some 23), .none, (.bin .xor (.t 17) (.t 22)), 10, [4, 3, 2, 1, 0, 9, 8, 7, 6, 5]⟩, ⟨(some 24), .none, (.bin .and (.t 23) (.c (.int .i64 255))), 11, [10, 4, 3, 2, 1, 0, 9, 8, 7, 6, 5]⟩, ⟨(some 3), .none, (.mov (.t 24)), 12, [11, 10, 4, 3, 2, 1, 0, 9, 8, 7, 6, 5]⟩]) (.seq (.seq (.reg true [⟨(some 25), .none, (.mov (.t 0)), 0, []⟩, ⟨(some 26), .none, (.nilc (.t 25)), 1, [0]⟩, ⟨(some 27), .none, (.fadr 1 (.t 26)), 2, [1, 0]⟩, ⟨(some 28), .none, (.load 1 false (.t 27)), 3, [2, 1, 0]⟩, ⟨(some 29), .none, (.mov (.t 0)), 4, []⟩, ⟨(some 30), .none, (.nilc (.t 29)), 5, [4]⟩, ⟨(some 31), .none, (.fadr 0 (.t 30)), 6, [5, 4]⟩, ⟨(some 32), .none, (.load 1 false (.t 31)), 7, [6, 5, 4]⟩, ⟨(some 33), .none, (.lenS (.t 32)), 8, [7, 6, 5, 4]⟩, ⟨(some 34), .none, (.bin .lss (.t 28) (.t 33)), 9, [3, 2, 1, 0, 8, 7, 6, 5, 4]⟩]) (.cond (.t 34) (.seq (.reg true [⟨(some 35), .none, (.mov (.t 3)), 0, []⟩, ⟨(some 36), .none, (.mov (.t 0)), 1, []⟩, ⟨(some 37), .none, (.nilc (.t 36)), 2, [1]⟩, ⟨(some 38), .none, (.fadr 0 (.t 37)), 3, [2, 1]⟩, ⟨(some 39), .none, (.load 1 false (.t 38)), 4, [3, 2, 1]⟩, ⟨(some 40), .none, (.mov (.t 0)), 5, []⟩, ⟨(some 41), .none, (.nilc (.t 40)), 6, [5]⟩, ⟨(some 42), .none, (.fadr 1 (.t 41)), 7, [6, 5]⟩, ⟨(some 43), .none, (.load 1 false (.t 42)), 8, [7, 6, 5]⟩, ⟨(some 44), .none, (.iadr 1 (.t 39) (.t 43)), 9, [4, 3, 2, 1, 8, 7, 6, 5]⟩, ⟨(some 45), .none, (.load 1 false (.t 44)), 10, [9, 4, 3, 2, 1, 8, 7, 6, 5]⟩, ⟨(some 46), .none, (.toInt .i64 (.t 45)), 11, [10, 9, 4, 3, 2, 1, 8, 7, 6, 5]⟩, ⟨(some 47), .none, (.bin .add (.t 35) (.t 46)), 12, [0, 11, 10, 9, 4, 3, 2, 1, 8, 7, 6, 5]⟩, ⟨(some 48), .none, (.bin .and (.t 47) (.c (.int .i64 255))), 13, [12, 0, 11, 10, 9, 4, 3, 2, 1, 8, 7, 6, 5]⟩, ⟨(some 3), .none, (.mov (.t 48)), 14, [13, 12, 0, 11, 10, 9, 4, 3, 2, 1, 8, 7, 6, 5]⟩]) (.reg false [⟨(some 49), .none, (.mov (.t 0)), 0, []⟩, ⟨(some 50), .none, (.mov (.t 0)), 1, []⟩, ⟨(some 51), .none, (.nilc (.t 50)), 2, []⟩, ⟨(some 52), .none, (.fadr 1 (.t 51)), 3, []⟩, ⟨(some 53), .none, (.load 1 false (.t 52)), 4, []⟩, ⟨(some 54), .none, (.bin .add (.t 53) (.c (.int .i64 1))), 5, []⟩, ⟨(some 55), .none, (.nilc (.t 49)), 6, []⟩, ⟨(some 56), .none, (.fadr 1 (.t 55)), 7, []⟩, ⟨.none, .none, (.store 1 (.t 56) (.t 54)), 8, []⟩])) .skip)) (.seq (.reg false [⟨(some 57), .none, (.mov (.t 3)), 0, []⟩, ⟨(some 2), .none, (.mov (.t 57)), 1, []⟩]) .ret))))), [(.t 2)]⟩
theorem k107 : EE.fns 107 = some c107 := by kernel_rfl
end Go.Proofs.Ytokicdkdllndpaa.Ev

/- A row of plain elements behind another one; one element taken out of a row. -/
namespace Go.Proofs.Ytokicdkdllndpaa.Ev
set_option linter.all false
open Go

section
variable {m : Md} {α : Type} {enc : α → List Value} {esz : Nat} {H : Hp} {v u : Value} {l l2 : List α}

theorem chunks_scal {cs : List Value} (he : ∀ a, (enc a).all scal = true) (h0 : 0 < esz) (hl : cs.length = l.length * esz) (hel : ∀ (i : Nat) a, l[i]? = some a → En enc a ((cs.drop (i * esz)).take esz)) : cs.all scal = true := by
  rw [List.all_eq_true]
  intro c hc
  obtain ⟨j, hj⟩ := List.getElem?_of_mem hc
  have hjl := (List.getElem?_eq_some_iff.1 hj).1
  have hdiv : j / esz < l.length := (Nat.div_lt_iff_lt_mul h0).2 (by omega)
  have := hel _ _ (List.getElem?_eq_getElem hdiv)
  unfold En at this
  have hmod := Nat.mod_lt j h0
  have h3 := getElem?_of_take this (j := j % esz) hmod
  have e : j / esz * esz + j % esz = j := by rw [Nat.mul_comm]; exact Nat.div_add_mod j esz
  rw [e, hj] at h3
  have := he l[j / esz]
  rw [List.all_eq_true] at this
  exact this c (List.mem_of_getElem? h3.symm)

theorem Sl.join {N bytes : Nat} (h : Sl (En enc) esz H v l) (h2 : Sl (En enc) esz H u l2) (he : ∀ a, (enc a).all scal = true) (h0 : 0 < esz) (ho : OwnS N v) (hN : N ≤ H.length) (hw : ∀ id, N ≤ id → m.wr id = true)
    (hb : (l.length + l2.length) * bytes ≤ Ev.room) (hb2 : l.length + l2.length ≤ Ev.room) :
    ∃ v' H', (∀ (s : St) (x y : X), s.H = H → exv s.ρ x = some v → ex s.ρ y = .val u → appK m s esz bytes x y = some (.val v', { s with H := H' })) ∧ Sl (En enc) esz H' v' (l ++ l2) ∧ OwnS N v' ∧
      (∀ j, j < H.length → j ∉ idsOf v → H'[j]? = H[j]?) ∧ H.length ≤ H'.length ∧ (∀ j ∈ idsOf v', j ∈ idsOf v ∨ H.length ≤ j) ∧ ∀ H0 : Hp, H0.length ≤ N → H0 <+: H → H0 <+: H' := by
  obtain ⟨cs, hsrc, hcs, hel⟩ := h2.src
  by_cases hn : l2.length = 0
  · have : l2 = [] := List.eq_nil_of_length_eq_zero hn
    subst this
    refine ⟨v, H, fun s x y hH hx hy => ?_, by simpa using h, ho, fun _ _ _ => rfl, Nat.le_refl _, fun j hj => .inl hj, fun _ _ h => h⟩
    subst hH
    unfold appK
    rw [hx, hy, hsrc]
    rcases h with ⟨rfl, _⟩ | ⟨_, _, _, _, rfl, _⟩ <;> rfl
  · obtain ⟨v', H', h1, h2'⟩ := h.app (m := m) (n := 1) (bytes := bytes) (l2 := l2) (cs := cs) ho hN hw (fun _ => chunks_scal he h0 hcs hel) (by omega) hcs hel hb hb2
    exact ⟨v', H', fun s x y hH hx hy => h1 s x y hH hx (by rw [hy]; exact hsrc), h2'⟩

theorem chunk_at {o : List Value} {p n k : Nat} (h : k < n) : ((o.drop p).take n)[k]? = o[p + k]? := by rw [take_drop_get, if_pos h]

theorem Sl.del {N i bytes : Nat} {zero : List Value} (h : Sl (En enc) esz H v l) (ho : OwnS N v) (hw : ∀ id ∈ idsOf v, m.wr id = true) (hi : i < l.length) (he : ∀ a, (enc a).all scal = true) (h0 : 0 < esz) (hz : zero.length = esz) (hzs : zero.all scal = true) :
    ∃ v1 v2 v3 v4 H1 H2, (∀ (s : St) (x y : X), exv s.ρ x = some v → exv s.ρ y = some (.int .i64 i) → slcK s esz x none (some y) = some (.val v1, s)) ∧
      (∀ (s : St) (x y : X), exv s.ρ x = some v → exv s.ρ y = some (.int .i64 ((i + 1 : Nat) : Int)) → slcK s esz x (some y) none = some (.val v2, s)) ∧
      (∀ (s : St) (x y : X), s.H = H → exv s.ρ x = some v1 → ex s.ρ y = .val v2 → appK m s esz bytes x y = some (.val v3, { s with H := H1 })) ∧
      (∀ (s : St) (x y z : X), exv s.ρ x = some v3 → exv s.ρ y = some (.int .i64 ((l.length - 1 : Nat) : Int)) → exv s.ρ z = some (.int .i64 l.length) → slcK s esz x (some y) (some z) = some (.val v4, s)) ∧
      (∀ (s : St) (x : X), s.H = H1 → exv s.ρ x = some v4 → clrK m s esz zero x = some (.val (.tuple #[]), { s with H := H2 })) ∧
      (∀ (s : St) (x : X), exv s.ρ x = some v3 → lenSK s x = some (.val (.int .i64 ((l.length - 1 : Nat) : Int)), s)) ∧
      (∀ (s : St) (x y z w : X), exv s.ρ x = some v → exv s.ρ y = some (.int .i64 i) → exv s.ρ z = some (.int .i64 ((i + 1 : Nat) : Int)) → exv s.ρ w = some (.int .i64 l.length) → ∃ v0, slc3K s esz x y z w = some (.val v0, s)) ∧
      Sl (En enc) esz H2 v3 (l.eraseIdx i) ∧ OwnS N v3 ∧ (∀ j ∈ idsOf v3, j ∈ idsOf v) ∧ (∀ j, j ∉ idsOf v → H2[j]? = H[j]?) ∧ H2.length = H.length := by
  rcases ho with rfl | ⟨id, e, ln, cap, rfl, hid⟩
  · rcases h with ⟨_, rfl⟩ | ⟨_, _, _, _, h, _⟩
    · simp at hi
    · cases h
  rcases h with ⟨h, _⟩ | ⟨id', off, cap', o, h, hg, hoc, hlc, hroom, hrr⟩
  · cases h
  cases h
  have hidl := (List.getElem?_eq_some_iff.1 hg).1
  have hwid := hw id (by simp [idsOf])
  have hm1 : (i + 1) * esz ≤ l.length * esz := Nat.mul_le_mul_right _ hi
  have hm1' := hm1
  rw [Nat.succ_mul] at hm1'
  have hl1 : (l.length - 1) * esz + esz = l.length * esz := by rw [← Nat.succ_mul]; congr 1; omega
  have hrest : (l.length - (i + 1)) * esz + (i + 1) * esz = l.length * esz := by rw [← Nat.add_mul]; congr 1; omega
  have hsm : (i + 1) * esz = i * esz + esz := Nat.succ_mul i esz
  have hir : i + (l.length - (i + 1)) = l.length - 1 := by omega
  have hlen1 : (l.eraseIdx i).length = l.length - 1 := List.length_eraseIdx_of_lt hi
  let cs2 := (o.drop ((i + 1) * esz)).take ((l.length - (i + 1)) * esz)
  have hcs2 : cs2.length = (l.length - (i + 1)) * esz := by show ((o.drop ((i + 1) * esz)).take ((l.length - (i + 1)) * esz)).length = _; rw [List.length_take, List.length_drop]; omega
  have hscal : cs2.all scal = true := by
    refine chunks_scal (enc := enc) (l := l.drop (i + 1)) he h0 (by rw [List.length_drop]; exact hcs2) fun k a hk => ?_
    rw [List.getElem?_drop] at hk
    have hkl := (List.getElem?_eq_some_iff.1 hk).1
    have := hrr _ a hk
    have e1 : (cs2.drop (k * esz)).take esz = (o.drop (0 + (i + 1 + k) * esz)).take esz := by
      refine List.ext_getElem? fun j => ?_
      by_cases hj : j < esz
      · rw [chunk_at hj, chunk_at hj]
        show ((o.drop ((i + 1) * esz)).take ((l.length - (i + 1)) * esz))[k * esz + j]? = _
        have hkm : (k + 1) * esz ≤ (l.length - (i + 1)) * esz := Nat.mul_le_mul_right _ (by omega)
        rw [Nat.succ_mul] at hkm
        rw [chunk_at (by omega)]
        congr 1
        rw [Nat.add_mul (i + 1)]
        omega
      · rw [take_drop_get, if_neg hj, take_drop_get, if_neg hj]
    rw [e1]
    exact this
  have hfin : ∀ (o1 o2 : List Value), o1.length = o.length → (∀ k, k < (l.length - 1) * esz → o1[k]? = if k < i * esz then o[k]? else o[k + esz]?) → (∀ k, k < (l.length - 1) * esz → o2[k]? = o1[k]?) → ∀ (k : Nat) a, (l.eraseIdx i)[k]? = some a → En enc a ((o2.drop (0 + k * esz)).take esz) := fun o1 o2 _ h1 h2 k a hk => by
    have hkl := (List.getElem?_eq_some_iff.1 hk).1
    rw [hlen1] at hkl
    have hkm : (k + 1) * esz ≤ (l.length - 1) * esz := Nat.mul_le_mul_right _ (by omega)
    rw [Nat.succ_mul] at hkm
    rw [List.getElem?_eraseIdx] at hk
    split at hk
    · rename_i hki
      have := hrr k a hk
      have hkim : (k + 1) * esz ≤ i * esz := Nat.mul_le_mul_right _ hki
      rw [Nat.succ_mul] at hkim
      have e1 : (o2.drop (0 + k * esz)).take esz = (o.drop (0 + k * esz)).take esz := by
        refine List.ext_getElem? fun j => ?_
        by_cases hj : j < esz
        · rw [chunk_at hj, chunk_at hj, h2 _ (by omega), h1 _ (by omega), if_pos (by omega)]
        · rw [take_drop_get, if_neg hj, take_drop_get, if_neg hj]
      rw [e1]
      exact this
    · rename_i hki
      have := hrr (k + 1) a hk
      have hkim : i * esz ≤ k * esz := Nat.mul_le_mul_right _ (by omega)
      have e1 : (o2.drop (0 + k * esz)).take esz = (o.drop (0 + (k + 1) * esz)).take esz := by
        refine List.ext_getElem? fun j => ?_
        by_cases hj : j < esz
        · rw [chunk_at hj, chunk_at hj, h2 _ (by omega), h1 _ (by omega), if_neg (by omega), Nat.succ_mul]
          congr 1
          omega
        · rw [take_drop_get, if_neg hj, take_drop_get, if_neg hj]
      rw [e1]
      exact this
  have hsl1 : ∀ (s : St) (x y : X), exv s.ρ x = some (.slice (some ⟨id, 0, some esz⟩) l.length cap) → exv s.ρ y = some (.int .i64 i) → slcK s esz x none (some y) = some (.val (.slice (some ⟨id, 0, some esz⟩) i cap), s) := fun s x y hx hy => by
    simp only [slcK, bnd, hx, hy]
    rw [if_pos ⟨trivial, by omega, by omega, .inl (by omega), by simp⟩]
    simp [St.val]
  have hsl2 : ∀ (s : St) (x y : X), exv s.ρ x = some (.slice (some ⟨id, 0, some esz⟩) l.length cap) → exv s.ρ y = some (.int .i64 ((i + 1 : Nat) : Int)) → slcK s esz x (some y) none = some (.val (.slice (some ⟨id, (i + 1) * esz, some esz⟩) (l.length - (i + 1)) (cap - (i + 1) * esz)), s) := fun s x y hx hy => by
    simp only [slcK, bnd, hx, hy]
    rw [if_pos ⟨trivial, by omega, by omega, .inl (by omega), by rw [Int.toNat_natCast]; omega⟩]
    simp only [St.val, Int.toNat_natCast, Nat.zero_add]
  have hsrc : ∀ x : X, srcOf H esz (.val (.slice (some ⟨id, (i + 1) * esz, some esz⟩) (l.length - (i + 1)) (cap - (i + 1) * esz))) = some (l.length - (i + 1), cs2) := fun _ => by
    simp only [srcOf, rowOf, hg]
    rw [if_pos (by omega)]
    simp only
    rw [if_pos ⟨trivial, by omega⟩]
  have hv4 : ∀ (s : St) (x y z : X), exv s.ρ x = some (.slice (some ⟨id, 0, some esz⟩) (l.length - 1) cap) → exv s.ρ y = some (.int .i64 ((l.length - 1 : Nat) : Int)) → exv s.ρ z = some (.int .i64 l.length) → slcK s esz x (some y) (some z) = some (.val (.slice (some ⟨id, (l.length - 1) * esz, some esz⟩) 1 (cap - (l.length - 1) * esz)), s) := fun s x y z hx hy hz => by
    simp only [slcK, bnd, hx, hy, hz]
    rw [if_pos ⟨trivial, by omega, by omega, .inr (by rw [← Int.natCast_mul]; omega), by rw [Int.toNat_natCast]; omega⟩]
    simp only [St.val, Int.toNat_natCast, Nat.zero_add, show l.length - (l.length - 1) = 1 by omega]
  have hlenv : ∀ (s : St) (x : X), exv s.ρ x = some (.slice (some ⟨id, 0, some esz⟩) (l.length - 1) cap) → lenSK s x = some (.val (.int .i64 ((l.length - 1 : Nat) : Int)), s) := fun s x hx => by
    simp only [lenSK, hx, St.val]
  have h3 : ∀ (s : St) (x y z w : X), exv s.ρ x = some (.slice (some ⟨id, 0, some esz⟩) l.length cap) → exv s.ρ y = some (.int .i64 i) → exv s.ρ z = some (.int .i64 ((i + 1 : Nat) : Int)) → exv s.ρ w = some (.int .i64 l.length) → ∃ v0, slc3K s esz x y z w = some (.val v0, s) := fun s x y z w hx hy hz hw2 => by
    simp only [slc3K, hx, hy, hz, hw2]
    rw [if_pos ⟨trivial, by omega, by omega, by omega, by rw [Int.toNat_natCast]; omega⟩]
    exact ⟨_, rfl⟩
  have hclr : ∀ (Ha : Hp) (oa : List Value), Ha[id]? = some oa → oa.length = o.length → ∀ (s : St) (x : X), s.H = Ha → exv s.ρ x = some (.slice (some ⟨id, (l.length - 1) * esz, some esz⟩) 1 (cap - (l.length - 1) * esz)) → clrK m s esz zero x = some (.val (.tuple #[]), { s with H := Ha.set id (spl oa ((l.length - 1) * esz) (zeros 1 zero)) }) := fun Ha oa hoa hla s x hH hx => by
    unfold clrK
    rw [hx, hH]
    simp only [hoa]
    rw [if_pos ⟨trivial, by omega, hwid, hzs, by omega⟩]
  have hz1 : (zeros 1 zero).length = esz := by rw [Zcc]; exact hz
  have hset : ∀ (Ha : Hp) (q : List Value), Ha.length = H.length → (Ha.set id q)[id]? = some q := fun Ha q hl => List.getElem?_set_self (by omega)
  by_cases hn : l.length - (i + 1) = 0
  · have hil : i = l.length - 1 := by omega
    have hil' : l.length - 1 = i := hil.symm
    refine ⟨_, _, .slice (some ⟨id, 0, some esz⟩) i cap, _, H, H.set id (spl o ((l.length - 1) * esz) (zeros 1 zero)), hsl1, hsl2, fun s x y hH hx hy => ?_, fun s x y z hx => hv4 s x y z (by rw [hil']; exact hx), fun s x hH hx => hclr H o hg rfl s x hH hx, fun s x hx => hlenv s x (by rw [hil']; exact hx), h3,
      .inr ⟨id, 0, cap, _, by rw [hlen1, hil'], hset _ _ rfl, by rw [spl_length]; exact hoc, by rw [hlen1]; omega, by rw [hlen1]; omega, hfin o _ rfl (fun k hk => ?_) (fun k hk => ?_)⟩, .inr ⟨_, _, _, _, rfl, hid⟩, fun j hj => hj, fun j hj => ?_, by simp⟩
    · unfold appK
      rw [hx, hH, hy, hsrc x]
      simp only
      rw [if_pos hn]
      subst hH
      rfl
    · rw [if_pos (by rw [hil]; exact hk)]
    · rw [spl_get, if_neg (by omega)]
    · rw [List.getElem?_set_ne]
      simp [idsOf] at hj
      omega
  · have hfit : (i + (l.length - (i + 1))) * esz ≤ cap := by rw [hir]; omega
    refine ⟨_, _, .slice (some ⟨id, 0, some esz⟩) (i + (l.length - (i + 1))) cap, _, H.set id (spl o (0 + i * esz) cs2), (H.set id (spl o (0 + i * esz) cs2)).set id (spl (spl o (0 + i * esz) cs2) ((l.length - 1) * esz) (zeros 1 zero)), hsl1, hsl2, fun s x y hH hx hy => ?_, fun s x y z hx => hv4 s x y z (by rw [← hir]; exact hx), fun s x hH hx => hclr _ _ (hset _ _ rfl) (by rw [spl_length]) s x hH hx, fun s x hx => hlenv s x (by rw [← hir]; exact hx), h3,
      .inr ⟨id, 0, cap, _, by rw [hlen1, hir], hset _ _ (by simp), by rw [spl_length, spl_length]; exact hoc, by rw [hlen1]; omega, by rw [hlen1]; omega, hfin (spl o (0 + i * esz) cs2) _ (by rw [spl_length]) (fun k hk => ?_) (fun k hk => ?_)⟩, .inr ⟨_, _, _, _, rfl, hid⟩, fun j hj => hj, fun j hj => ?_, by simp⟩
    · unfold appK
      rw [hx, hH, hy, hsrc x]
      simp only
      rw [if_neg hn, hg]
      simp only
      rw [if_pos ⟨trivial, hoc, hwid, fun _ => hscal⟩, if_pos hfit]
    · by_cases hk2 : k < i * esz
      · rw [if_pos hk2, spl_get, if_neg (by omega)]
      · rw [if_neg hk2, spl_get, if_pos (by omega), if_pos (by omega)]
        show ((o.drop ((i + 1) * esz)).take ((l.length - (i + 1)) * esz))[k - (0 + i * esz)]? = _
        rw [chunk_at (by omega)]
        congr 1
        rw [Nat.succ_mul]
        omega
    · rw [spl_get, if_neg (by omega)]
    · rw [List.getElem?_set_ne, List.getElem?_set_ne]
      · simp [idsOf] at hj; omega
      · simp [idsOf] at hj; omega
end
end Go.Proofs.Ytokicdkdllndpaa.Ev
