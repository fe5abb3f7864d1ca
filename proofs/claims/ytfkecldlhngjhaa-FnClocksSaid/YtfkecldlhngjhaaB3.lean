/- Texts of this proof, laid one behind the other: what each shows stands at its head. -/
import Derived.Test.YtfkecldlhngjhaaB2
import Derived.ChangeSame
import Derived.ChangeShapes
import Derived.WideShapes
import Derived.Carry
import Derived.Sort.Grow
import Derived.Test.YtfkecldlhngjhaaProg
/- Slices as lists; functions that leave memory as it is. -/
namespace Go.Proofs.Ytfkecldlhngjhaa.Ev
set_option linter.all false
open Go

section
variable {E : Env} {m : Md}

theorem Fun.det {f : Nat} {vs : List Value} {H : Hp} {P Q : Value → Hp → Prop} (h : Fun E m f vs H P) (k : Fun E m f vs H Q) : Fun E m f vs H fun r H' => P r H' ∧ Q r H' := by
  obtain ⟨k1, r1, H1, h1, h2⟩ := h
  obtain ⟨k2, r2, H2, h3, h4⟩ := k
  have e1 := evF_mono k2 h1
  have e2 := evF_mono k1 h3
  rw [Nat.add_comm] at e2
  rw [e1] at e2
  cases e2
  exact ⟨k1, r1, H1, h1, h2, h4⟩

/-- A function that answers this and leaves memory as it is, however it is called. -/
def Scal (E : Env) (f : Nat) (vs : List Value) (H : Hp) (r : Value) : Prop := ∀ m : Md, (∀ id, H.length ≤ id → m.wr id = true) → Fun E m f vs H fun r' H' => r' = r ∧ H' = H

theorem callT_scal {f : Nat} {vs : List Value} {H : Hp} {r : Value} (h : Scal E f vs H r) {draw : Bool} {s : St} {d : Option Nat} {ts : List Tk} {Q : Ex → St → Prop} (hH : s.H = H) (hw : ∀ id, H.length ≤ id → m.wr id = true) :
    callT E m draw f (some vs) s d ts Q = go E m ts { s with ρ := upd s.ρ d (.val r) } Q := by
  subst hH
  have hm := h (if draw then m.drawn E.pw s.H f vs else m) (fun id hid => by
    cases draw with
    | false => exact hw id hid
    | true => simp only [if_true, Md.drawn]; simp [hid])
  unfold callT opt
  simp only
  refine propext ⟨fun hf => ?_, fun hg => hm.mono fun r' H' ⟨e1, e2⟩ => by subst e1; subst e2; exact hg⟩
  obtain ⟨_, _, _, _, ⟨e1, e2⟩, h2⟩ := hm.det hf
  subst e1; subst e2
  exact h2

/-- New rows may be written. -/
def Wr (m : Md) (H : Hp) : Prop := ∀ id, H.length ≤ id → m.wr id = true

theorem callT_at {f : Nat} {vs : List Value} {H : Hp} {r : Value} (h : Scal E f vs H r) {draw : Bool} {s : St} {d : Option Nat} {ts : List Tk} {Q : Ex → St → Prop} (hH : s.H = H) (hw : Wr m H) :
    callT E m draw f (some vs) s d ts Q = go E m ts { s with ρ := upd s.ρ d (.val r) } Q := callT_scal h hH hw

theorem callT_to {f : Nat} {vs : List Value} {H : Hp} {P : Value → Hp → Prop} {draw : Bool} {s : St} {d : Option Nat} {ts : List Tk} {Q : Ex → St → Prop} (h : ∀ m' : Md, Wr m' H → Fun E m' f vs H P) (hH : s.H = H) (hw : Wr m H)
    (hq : ∀ r H', P r H' → go E m ts { s with H := H', ρ := upd s.ρ d (.val r) } Q) : callT E m draw f (some vs) s d ts Q := by
  subst hH
  exact callT_ok (fun m' _ h2 _ _ => h m' h2) hw hq

theorem Wr.pre {H H' : Hp} (h : Wr m H) (hp : H <+: H') : Wr m H' := fun id hid => h id (Nat.le_trans hp.length_le hid)

theorem Scal.fun {f : Nat} {vs : List Value} {H : Hp} {r : Value} (h : Scal E f vs H r) (hw : ∀ id, H.length ≤ id → m.wr id = true) {Q : Value → Hp → Prop} (hq : Q r H) : Fun E m f vs H Q :=
  (h m hw).mono fun _ _ ⟨e1, e2⟩ => by subst e1; subst e2; exact hq

/-- A slice that stands for a list; what an element's cells must be is told by R. -/
def Sl {α : Type} (R : α → List Value → Prop) (esz : Nat) (H : Hp) (v : Value) (l : List α) : Prop :=
  (v = .slice none 0 0 ∧ l = []) ∨ ∃ id off cap o, v = .slice (some ⟨id, off, some esz⟩) l.length cap ∧ H[id]? = some o ∧ off + cap = o.length ∧ l.length * esz ≤ cap ∧ l.length ≤ 9223372036854775807 ∧
    ∀ i a, l[i]? = some a → R a ((o.drop (off + i * esz)).take esz)

/-- Elements of plain cells. -/
def En {α : Type} (enc : α → List Value) (a : α) (cs : List Value) : Prop := cs = enc a

def eI (n : Int) : List Value := [.int .i64 n]

theorem getElem?_of_take {o : List Value} {a n j : Nat} {cs : List Value} (h : (o.drop a).take n = cs) (hj : j < n) : o[a + j]? = cs[j]? := by
  subst h
  rw [List.getElem?_take, if_pos hj, List.getElem?_drop]

section
variable {α : Type} {R : α → List Value → Prop} {esz : Nat} {H : Hp} {v : Value} {l : List α}

theorem Sl.len (h : Sl R esz H v l) {s : St} {x : X} (hx : exv s.ρ x = some v) : lenSK s x = some (.val (.int .i64 l.length), s) := by
  unfold lenSK
  rw [hx]
  rcases h with ⟨rfl, rfl⟩ | ⟨id, off, cap, o, rfl, _⟩ <;> rfl

theorem Sl.room (h : Sl R esz H v l) : l.length ≤ 9223372036854775807 := by
  rcases h with ⟨rfl, rfl⟩ | ⟨id, off, cap, o, rfl, ho, hc, hn, hrm, hr⟩
  · simp
  · exact hrm

theorem Sl.elem (h : Sl R esz H v l) {i : Nat} {a : α} (hi : l[i]? = some a) : ∃ id p o, H[id]? = some o ∧ R a ((o.drop p).take esz) ∧ p + esz ≤ o.length ∧
    ∀ (s : St) (x y : X), exv s.ρ x = some v → exv s.ρ y = some (.int .i64 i) → iadrK s esz x y = some (.val (.pointer (some ⟨id, p, some o.length⟩)), s) := by
  have hl := (List.getElem?_eq_some_iff.1 hi).1
  rcases h with ⟨rfl, rfl⟩ | ⟨id, off, cap, o, rfl, ho, hc, hn, hrm, hr⟩
  · simp at hi
  · have hm : (i + 1) * esz ≤ l.length * esz := Nat.mul_le_mul_right _ (by omega)
    rw [Nat.succ_mul] at hm
    refine ⟨id, off + i * esz, o, ho, hr i a hi, by omega, fun s x y hx hy => ?_⟩
    unfold iadrK
    rw [hx, hy]
    simp only [Int.toNat_natCast, hc]
    rw [if_pos ⟨trivial, by omega, by omega⟩]

theorem Sl.take (h : Sl R esz H v l) {i : Nat} (hi : i ≤ l.length) : ∃ v', Sl R esz H v' (l.take i) ∧
    ∀ (s : St) (x y : X), exv s.ρ x = some v → exv s.ρ y = some (.int .i64 i) → slcK s esz x none (some y) = some (.val v', s) := by
  rcases h with ⟨rfl, rfl⟩ | ⟨id, off, cap, o, rfl, ho, hc, hn, hrm, hr⟩
  · simp at hi
    subst hi
    refine ⟨.slice none 0 0, .inl ⟨rfl, by simp⟩, fun s x y hx hy => ?_⟩
    simp only [slcK, bnd, hx, hy]
    rfl
  · have hm : i * esz ≤ l.length * esz := Nat.mul_le_mul_right _ hi
    refine ⟨.slice (some ⟨id, off, some esz⟩) i cap, .inr ⟨id, off, cap, o, by rw [List.length_take, Nat.min_eq_left hi], ho, hc, by rw [List.length_take, Nat.min_eq_left hi]; omega, by rw [List.length_take]; omega, fun j a hj => ?_⟩, fun s x y hx hy => ?_⟩
    · rw [List.getElem?_take] at hj
      split at hj
      · exact hr j a hj
      · cases hj
    · simp only [slcK, bnd, hx, hy]
      rw [if_pos ⟨trivial, by omega, by omega, .inl (by omega), by simp⟩]
      simp [St.val]

/-- What stays as long as its rows stay. -/
theorem Sl.frame {R' : α → List Value → Prop} {H' : Hp} (h : Sl R esz H v l) (hr : ∀ a ∈ l, ∀ cs, R a cs → R' a cs) (hH : ∀ id off e len cap, v = .slice (some ⟨id, off, e⟩) len cap → H'[id]? = H[id]?) : Sl R' esz H' v l := by
  rcases h with ⟨rfl, rfl⟩ | ⟨id, off, cap, o, rfl, ho, hc, hn, hrm, hr2⟩
  · exact .inl ⟨rfl, rfl⟩
  · exact .inr ⟨id, off, cap, o, rfl, by rw [hH _ _ _ _ _ rfl]; exact ho, hc, hn, hrm, fun i a hi => hr a (List.mem_of_getElem? hi) _ (hr2 i a hi)⟩

end

/-- How a function ends. -/
def retT (v : Option Value) (tr : Bool) (H H' : Hp) (Q : Value → Hp → Prop) : Prop :=
  match v with
  | some v => (tr = true → flatScal v = true) ∧ Q v (if tr = true then H'.take H.length else H')
  | none => False

theorem post_ret {f : Nat} {res : List RV} {H : Hp} {Q : Value → Hp → Prop} {s : St} : FunPost E f res H Q .ret s = retT (resT s res) (E.tr f) H s.H Q := by
  unfold FunPost opt retT
  simp only
  cases resT s res with
  | none => rfl
  | some v => cases E.tr f <;> simp
theorem post_normal {f : Nat} {res : List RV} {H : Hp} {Q : Value → Hp → Prop} {s : St} : FunPost E f res H Q .normal s = retT (resT s res) (E.tr f) H s.H Q := by
  rw [← post_ret]; rfl
theorem retT_true {v : Value} {H H' : Hp} {Q : Value → Hp → Prop} : retT (some v) true H H' Q = (flatScal v = true ∧ Q v (H'.take H.length)) := by simp [retT]
theorem retT_false {v : Value} {H H' : Hp} {Q : Value → Hp → Prop} : retT (some v) false H H' Q = Q v H' := by simp [retT]
theorem flat_bool (b : Bool) : flatScal (.bool b) = true := rfl
theorem flat_int (k : IntKind) (n : Int) : flatScal (.int k n) = true := rfl
theorem flat_str (n : ByteArray) : flatScal (.string n) = true := rfl

/-- How a function's code is to end. -/
def Post (res : List RV) (tr : Bool) (H : Hp) (Q : Value → Hp → Prop) (e : Ex) (s : St) : Prop :=
  match e with
  | .exit _ => False
  | _ => retT (resT s res) tr H s.H Q
theorem Post_ret {res : List RV} {tr : Bool} {H : Hp} {Q : Value → Hp → Prop} {s : St} : Post res tr H Q .ret s = retT (resT s res) tr H s.H Q := rfl
theorem Post_normal {res : List RV} {tr : Bool} {H : Hp} {Q : Value → Hp → Prop} {s : St} : Post res tr H Q .normal s = retT (resT s res) tr H s.H Q := rfl
def PostS (res : List RV) (H : Hp) (r : Value) (e : Ex) (s : St) : Prop :=
  match e with
  | .exit _ => False
  | _ => resT s res = some r ∧ s.H.take H.length = H
theorem PostS_ret {res : List RV} {H : Hp} {r : Value} {s : St} : PostS res H r .ret s = (resT s res = some r ∧ s.H.take H.length = H) := rfl
theorem PostS_normal {res : List RV} {H : Hp} {r : Value} {s : St} : PostS res H r .normal s = (resT s res = some r ∧ s.H.take H.length = H) := rfl

theorem fun_ok {f : Nat} {cf : CF} {vs : List Value} {H : Hp} {Q : Value → Hp → Prop} {tr : Bool} (ht : E.tr f = tr) (hp : E.prim f = none) (hf : E.fns f = some cf) (hl : vs.length ≤ cf.nt)
    (h : go E { m with nr := m.nr || tr } [.c cf.body] { ρ := ini vs, gn := 0, H := H } (Post cf.res tr H Q)) : Fun E m f vs H Q := by
  subst ht
  refine Fun.intro hp hf hl ((go_run h).mono fun e s' h' => ?_)
  cases e with
  | normal => rw [post_normal]; exact h'
  | exit j => exact h'
  | ret => rw [post_ret]; exact h'

theorem fun_f {f : Nat} {cf : CF} {vs : List Value} {H : Hp} {Q : Value → Hp → Prop} (ht : E.tr f = false) (hp : E.prim f = none) (hf : E.fns f = some cf) (hl : vs.length ≤ cf.nt)
    (h : go E m [.c cf.body] { ρ := ini vs, gn := 0, H := H } (Post cf.res false H Q)) : Fun E m f vs H Q :=
  fun_ok ht hp hf hl (by rw [Bool.or_false]; exact h)

theorem scal_ok {f : Nat} {cf : CF} {vs : List Value} {H : Hp} {r : Value} (ht : E.tr f = true) (hp : E.prim f = none) (hf : E.fns f = some cf) (hl : vs.length ≤ cf.nt) (hr : flatScal r = true)
    (h : ∀ m : Md, Wr m H → go E m [.c cf.body] { ρ := ini vs, gn := 0, H := H } (PostS cf.res H r)) : Scal E f vs H r := by
  intro m hw
  refine Fun.intro hp hf hl ((go_run (h { m with nr := m.nr || E.tr f } hw)).mono fun e s' h' => ?_)
  cases e with
  | normal => rw [post_normal, h'.1, ht, retT_true]; exact ⟨hr, rfl, h'.2⟩
  | exit j => exact h'
  | ret => rw [post_ret, h'.1, ht, retT_true]; exact ⟨hr, rfl, h'.2⟩

/-- A loop that counts up. -/
theorem go_for {s : St} {Q : Ex → St → Prop} {ts : List Tk} {b : Nat} {c : CC} (N : Nat) (I : Nat → St → Prop) (P : St → Prop) (h0 : I 0 s)
    (step : ∀ i s, i ≤ N → I i s → go E m [.c c] s fun e s' => match e with
      | .normal => i < N ∧ I (i + 1) s'
      | .exit j => j = b ∧ P s'
      | .ret => Q .ret s')
    (hp : ∀ s, P s → go E m ts s Q) : go E m (.c (.loop c) :: .blk b :: ts) s Q := by
  refine go_loop (fun n s => ∃ i, n = N - i ∧ i ≤ N ∧ I i s) P N ⟨0, by simp, by simp, h0⟩ (fun n s h => ?_) hp
  obtain ⟨i, rfl, hi, hI⟩ := h
  refine go_mono (step i s hi hI) fun e s' h => ?_
  cases e with
  | normal => exact ⟨N - (i + 1), by omega, i + 1, rfl, by omega, h.2⟩
  | exit j => exact h
  | ret => exact h

theorem spl_nil (o : List Value) (i : Nat) : spl o i [] = o := rfl
theorem spl_z : ∀ (cs : List Value) (x : Value) (xs : List Value) (c : Value), spl (x :: xs) 0 (c :: cs) = c :: spl xs 0 cs := by
  have h : ∀ (cs : List Value) (x : Value) (xs : List Value) (i : Nat), spl (x :: xs) (i + 1) cs = x :: spl xs i cs := by
    intro cs
    induction cs with
    | nil => intros; rfl
    | cons c cs ih => intro x xs i; rw [spl, spl, List.set_cons_succ, ih]
  intro cs x xs c
  rw [spl, List.set_cons_zero, h]
theorem spl_s (cs : List Value) : ∀ (x : Value) (xs : List Value) (i : Nat), spl (x :: xs) (i + 1) cs = x :: spl xs i cs := by
  induction cs with
  | nil => intros; rfl
  | cons c cs ih => intro x xs i; rw [spl, spl, List.set_cons_succ, ih]
section
variable (cs : List Value) (x : Value) (xs : List Value)
theorem spl_1 : spl (x :: xs) 1 cs = x :: spl xs 0 cs := spl_s cs x xs 0
theorem spl_2 : spl (x :: xs) 2 cs = x :: spl xs 1 cs := spl_s cs x xs 1
theorem spl_3 : spl (x :: xs) 3 cs = x :: spl xs 2 cs := spl_s cs x xs 2
theorem spl_4 : spl (x :: xs) 4 cs = x :: spl xs 3 cs := spl_s cs x xs 3
theorem spl_5 : spl (x :: xs) 5 cs = x :: spl xs 4 cs := spl_s cs x xs 4
theorem spl_6 : spl (x :: xs) 6 cs = x :: spl xs 5 cs := spl_s cs x xs 5
theorem spl_7 : spl (x :: xs) 7 cs = x :: spl xs 6 cs := spl_s cs x xs 6
theorem spl_8 : spl (x :: xs) 8 cs = x :: spl xs 7 cs := spl_s cs x xs 7
end
theorem zeros_0 (z : List Value) : zeros 0 z = [] := rfl
theorem zeros_1 (z : List Value) : zeros 1 z = z := by simp [zeros]
theorem zeros_2 (z : List Value) : zeros 2 z = z ++ z := by simp [zeros, List.replicate_succ]
theorem zeros_3 (z : List Value) : zeros 3 z = z ++ (z ++ z) := by simp [zeros, List.replicate_succ]
theorem zeros_4 (z : List Value) : zeros 4 z = z ++ (z ++ (z ++ z)) := by simp [zeros, List.replicate_succ]
theorem vc_agg (cs : Array Value) : vc (.agg cs) = some cs.toList := rfl
theorem vc_int (k : IntKind) (n : Int) : vc (.int k n) = some [.int k n] := rfl
theorem vc_bool (b : Bool) : vc (.bool b) = some [.bool b] := rfl
theorem vc_str (b : ByteArray) : vc (.string b) = some [.string b] := rfl
theorem vc_ptr (p : Option Addr) : vc (.pointer p) = some [.pointer p] := rfl
theorem vc_sl (a : Option Addr) (l c : Nat) : vc (.slice a l c) = some [.slice a l c] := rfl
theorem vc_fn (f : Fn) (a c : Array Value) : vc (.func f a c) = some [.func f a c] := rfl
theorem Sl.vc {α : Type} {R : α → List Value → Prop} {esz : Nat} {H : Hp} {v : Value} {l : List α} (h : Sl R esz H v l) : vc v = some [v] := by
  rcases h with ⟨rfl, _⟩ | ⟨_, _, _, _, rfl, _⟩ <;> rfl
theorem scal_int (k : IntKind) (n : Int) : scal (.int k n) = true := rfl
theorem scal_bool (b : Bool) : scal (.bool b) = true := rfl
theorem scal_str (b : ByteArray) : scal (.string b) = true := rfl
theorem scal_nil : scal (.slice none 0 0) = true := rfl

theorem wrap64 (n : Int) (h0 : -9223372036854775808 ≤ n) (h1 : n < 9223372036854775808) : IntKind.i64.wrap n = n := by
  simp [IntKind.wrap, IntKind.bits, IntKind.signed]
  omega

end
end Go.Proofs.Ytfkecldlhngjhaa.Ev

/- Slices that are one's own: writing into them, growing them. -/
namespace Go.Proofs.Ytfkecldlhngjhaa.Ev
set_option linter.all false
open Go

/-- A slice with a row of its own, from N on, from the row's start. -/
def OwnS (N : Nat) (v : Value) : Prop := v = .slice none 0 0 ∨ ∃ id e len cap, v = .slice (some ⟨id, 0, some e⟩) len cap ∧ N ≤ id

theorem take_drop_get (o : List Value) (p n j : Nat) : ((o.drop p).take n)[j]? = if j < n then o[p + j]? else none := by
  rw [List.getElem?_take]
  split <;> simp [List.getElem?_drop]

theorem spl_same {o cs : List Value} {p : Nat} (h : p + cs.length ≤ o.length) : ((spl o p cs).drop p).take cs.length = cs := by
  refine List.ext_getElem? fun j => ?_
  rw [take_drop_get]
  by_cases hj : j < cs.length
  · rw [if_pos hj, spl_get, if_pos (by omega), if_pos (by omega), show p + j - p = j by omega]
  · rw [if_neg hj, List.getElem?_eq_none (by omega)]

theorem spl_other {o cs : List Value} {p q n : Nat} (h : q + n ≤ p ∨ p + cs.length ≤ q) : ((spl o p cs).drop q).take n = (o.drop q).take n := by
  refine List.ext_getElem? fun j => ?_
  rw [take_drop_get, take_drop_get]
  by_cases hj : j < n
  · rw [if_pos hj, if_pos hj, spl_get, if_neg (by omega)]
  · rw [if_neg hj, if_neg hj]

theorem pre_set {H0 H : Hp} {id : Nat} {r : List Value} (h : H0 <+: H) (hid : H0.length ≤ id) : H0 <+: H.set id r := by
  obtain ⟨t, rfl⟩ := h
  exact ⟨t.set (id - H0.length) r, by rw [List.set_append_right _ _ hid]⟩

theorem pre_push {H0 H : Hp} {r : List Value} (h : H0 <+: H) : H0 <+: H ++ [r] := by
  obtain ⟨t, rfl⟩ := h
  exact ⟨t ++ [r], by simp⟩

theorem pre_get {H0 H : Hp} (h : H0 <+: H) {id : Nat} (hid : id < H0.length) : H[id]? = H0[id]? := by
  obtain ⟨t, rfl⟩ := h
  rw [List.getElem?_append_left hid]

section
variable {α : Type} {R : α → List Value → Prop} {esz : Nat} {H : Hp} {v : Value} {l : List α}

/-- What a slice says of older rows stays. -/
theorem Sl.pre {H' : Hp} (h : Sl R esz H v l) (hp : H <+: H') : Sl R esz H' v l := by
  rcases h with ⟨rfl, rfl⟩ | ⟨id, off, cap, o, rfl, ho, hc, hn, hrm, hr⟩
  · exact .inl ⟨rfl, rfl⟩
  · exact .inr ⟨id, off, cap, o, rfl, by rw [pre_get hp (List.getElem?_eq_some_iff.1 ho).1]; exact ho, hc, hn, hrm, hr⟩

theorem Sl.ids (h : Sl R esz H v l) : ∀ id ∈ idsOf v, id < H.length := by
  rcases h with ⟨rfl, rfl⟩ | ⟨id, off, cap, o, rfl, ho, _⟩
  · simp [idsOf]
  · simp only [idsOf, List.mem_singleton]
    rintro _ rfl
    exact (List.getElem?_eq_some_iff.1 ho).1

theorem Sl.other {r : List Value} {id : Nat} (h : Sl R esz H v l) (hid : id ∉ idsOf v) : Sl R esz (H.set id r) v l := by
  rcases h with ⟨rfl, rfl⟩ | ⟨id', off, cap, o, rfl, ho, hc, hn, hrm, hr⟩
  · exact .inl ⟨rfl, rfl⟩
  · simp only [idsOf, List.mem_singleton] at hid
    exact .inr ⟨id', off, cap, o, rfl, by rw [List.getElem?_set_ne (by omega)]; exact ho, hc, hn, hrm, hr⟩

/-- Writing an element. -/
theorem Sl.store (h : Sl R esz H v l) {i : Nat} (hi : i < l.length) : ∃ id p o, H[id]? = some o ∧ p + esz ≤ o.length ∧ idsOf v = [id] ∧
    (∀ (s : St) (x y : X), exv s.ρ x = some v → exv s.ρ y = some (.int .i64 i) → iadrK s esz x y = some (.val (.pointer (some ⟨id, p, some o.length⟩)), s)) ∧
    ∀ a cs, cs.length = esz → R a cs → Sl R esz (H.set id (spl o p cs)) v (l.set i a) := by
  rcases h with ⟨rfl, rfl⟩ | ⟨id, off, cap, o, rfl, ho, hc, hn, hrm, hr⟩
  · simp at hi
  · have hm : (i + 1) * esz ≤ l.length * esz := Nat.mul_le_mul_right _ (by omega)
    rw [Nat.succ_mul] at hm
    have hid := (List.getElem?_eq_some_iff.1 ho).1
    refine ⟨id, off + i * esz, o, ho, by omega, rfl, fun s x y hx hy => ?_, fun a cs hcs hRa => .inr ⟨id, off, cap, spl o (off + i * esz) cs, by rw [List.length_set], by rw [List.getElem?_set_self hid], by rw [spl_length]; exact hc, by rw [List.length_set]; exact hn, by rw [List.length_set]; exact hrm, fun j b hj => ?_⟩⟩
    · unfold iadrK
      rw [hx, hy]
      simp only [Int.toNat_natCast, hc]
      rw [if_pos ⟨trivial, by omega, by omega⟩]
    · rw [List.getElem?_set] at hj
      split at hj
      · rename_i hij
        subst hij
        cases hj
        have := spl_same (o := o) (cs := cs) (p := off + i * esz) (by omega)
        rw [hcs] at this
        rw [this]
        exact hRa
      · rename_i hij
        rw [spl_other]
        · exact hr j b hj
        · rw [hcs]
          by_cases hlt : j < i
          · have : (j + 1) * esz ≤ i * esz := Nat.mul_le_mul_right _ (by omega)
            rw [Nat.succ_mul] at this
            exact .inl (by omega)
          · have : (i + 1) * esz ≤ j * esz := Nat.mul_le_mul_right _ (by omega)
            rw [Nat.succ_mul] at this
            exact .inr (by omega)

end
end Go.Proofs.Ytfkecldlhngjhaa.Ev

/- What comes in by a law's parameters, as rows of the small machine. -/
namespace Go.Proofs.Ytfkecldlhngjhaa.Ev
set_option linter.all false
open Go Go.ChangeShapes Go.WideShapes Go.RowKit

/-- Is there a block of cells at all? -/
def Blk (w : World) : Prop := ∃ (b : Nat) (ds : Array Value) (e : TypeId) (lo hi : Nat), w.heap[b]? = some (.cells ds e (lo, hi))

/-- Rows that are only read. -/
def RdRel (J : Inj) (M : Hp) (w : World) : Prop := WRel M.length J M w

def Ext (J : Inj) (M : Hp) (J' : Inj) (M' : Hp) : Prop := M <+: M' ∧ ∀ id, id < M.length → J' id = J id

theorem Ext.refl (J : Inj) (M : Hp) : Ext J M J M := ⟨List.prefix_refl _, fun _ _ => rfl⟩
theorem Ext.trans {J J' J'' : Inj} {M M' M'' : Hp} (h : Ext J M J' M') (k : Ext J' M' J'' M'') : Ext J M J'' M'' :=
  ⟨h.1.trans k.1, fun id hid => (k.2 id (Nat.lt_of_lt_of_le hid h.1.length_le)).trans (h.2 id hid)⟩
theorem Ext.keep {J J' : Inj} {M M' : Hp} (h : Ext J M J' M') : Keep J M J' M' := fun id o ho =>
  ⟨o, by rw [pre_get h.1 (List.getElem?_eq_some_iff.1 ho).1]; exact ho, .inr ⟨rfl, h.2 id (List.getElem?_eq_some_iff.1 ho).1⟩⟩

/-- Values of a type, brought into the machine: what stands for them, and what is known of them. -/
structure Bld {α : Type} (P : Program) (t : TypeId) (sz : Nat) (R : Hp → α → List Value → Prop) (ok : α → Prop) : Prop where
  cells : P.cellsOf t = sz
  pos : 0 < sz
  mono : ∀ {M M' : Hp} {z : α} {vs : List Value}, M <+: M' → R M z vs → R M' z vs
  bld : ∀ {H : Type} {enc : TypeId × Value → H} {w : World} {base : Nat} {held : Bool} {fuel : Nat} {cs : List Value} {x : DataW H × List MemPlace},
    DataW.trod enc P w base (fun _ => true) held fuel t cs = some x → (∀ a l c, .slice (some a) l c ∈ cs → Blk w) → ∀ (J : Inj) (M : Hp), RdRel J M w →
    ∃ (J' : Inj) (M' : Hp) (vs : List Value) (z : α), Ext J M J' M' ∧ RdRel J' M' w ∧ LRel J' M' vs cs ∧ (∀ v ∈ vs, v.oneCell' = true) ∧ R M' z vs ∧ ok z

theorem RdRel.nil (w : World) : RdRel (fun _ => none) [] w :=
  ⟨fun id o h => by simp at h, fun _ _ _ _ _ _ h _ => by simp at h, fun _ _ => rfl⟩

section
variable {P : Program}

theorem Bld.int {k : IntKind} {t : TypeId} (ht : P.underlying t = some (.int k)) (hc : P.cellsOf t = 1) : Bld P t 1 (fun _ n vs => vs = [.int k n]) (fun n => (Lit.int k n).wf = true) :=
  ⟨hc, by omega, fun _ h => h, fun h _ J M hr => by
    obtain ⟨n, rfl, _, hw⟩ := DataW.trod_int ht h
    exact ⟨J, M, _, n, .refl _ _, hr, .cons (.int k n) .nil, by simp [Value.oneCell'], rfl, hw⟩⟩

theorem Bld.bool {t : TypeId} (ht : P.underlying t = some .bool) (hc : P.cellsOf t = 1) : Bld P t 1 (fun _ b vs => vs = [.bool b]) (fun _ => True) :=
  ⟨hc, by omega, fun _ h => h, fun h _ J M hr => by
    obtain ⟨n, rfl, _⟩ := DataW.trod_bool ht h
    exact ⟨J, M, _, n, .refl _ _, hr, .cons (.bool n) .nil, by simp [Value.oneCell'], rfl, trivial⟩⟩

theorem Bld.string {t : TypeId} (ht : P.underlying t = some .string) (hc : P.cellsOf t = 1) : Bld P t 1 (fun _ s vs => vs = [.string s]) (fun s => s.size ≤ maxLen) :=
  ⟨hc, by omega, fun _ h => h, fun h _ J M hr => by
    obtain ⟨n, rfl, _, hw⟩ := DataW.trod_string ht h
    exact ⟨J, M, _, n, .refl _ _, hr, .cons (.str n) .nil, by simp [Value.oneCell'], rfl, hw⟩⟩

/-- A new row that is only read. -/
theorem RdRel.push {J : Inj} {M : Hp} {w : World} (h : RdRel J M w) {l : Loc} {ds : Array Value} {e : TypeId} {lo hi : Nat} {o : List Value} (hb : w.heap[l.b]? = some (.cells ds e (lo, hi))) (hs : ds.size = l.sz) (hl : l.sh + o.length ≤ l.sz)
    (ho : LRel J M o ((ds.toList.drop l.sh).take o.length)) (h1 : ∀ v ∈ o, v.oneCell' = true) :
    Ext J M (fun id => if id = M.length then some l else J id) (M ++ [o]) ∧ RdRel (fun id => if id = M.length then some l else J id) (M ++ [o]) w := by
  have hx : Ext J M (fun id => if id = M.length then some l else J id) (M ++ [o]) := ⟨List.prefix_append _ _, fun id hid => by show (if id = M.length then some l else J id) = J id; rw [if_neg (by omega)]⟩
  refine ⟨hx, fun id o2 ho2 => ?_, fun id id' l2 l' hne hB hl1 hl2 => ?_, fun id hid => ?_⟩
  · have hid := (List.getElem?_eq_some_iff.1 ho2).1
    rw [List.length_append, List.length_singleton] at hid
    by_cases he : id = M.length
    · subst he
      rw [List.getElem?_append_right (Nat.le_refl _), Nat.sub_self] at ho2
      cases ho2
      refine ⟨l, ds, e, lo, hi, by simp, hb, hs, hl, fun i v hv => ⟨h1 v (List.mem_of_getElem? hv), ?_⟩, fun hB => by rw [List.length_append, List.length_singleton] at hB; omega⟩
      obtain ⟨y, hy, hr⟩ := ho.get hv
      have hi2 := (List.getElem?_eq_some_iff.1 hv).1
      refine ⟨y, ?_, hr.keep hx.keep⟩
      rw [take_drop_get, if_pos hi2, Array.getElem?_toList] at hy
      exact hy
    · rw [List.getElem?_append_left (by omega)] at ho2
      obtain ⟨l2, ds2, e2, lo2, hi2, a1, a2, a3, a4, a5, _⟩ := h.row id o2 ho2
      refine ⟨l2, ds2, e2, lo2, hi2, by show (if id = M.length then some l else J id) = some l2; rw [if_neg he]; exact a1, a2, a3, a4, fun i v hv => ?_, fun hB => by rw [List.length_append, List.length_singleton] at hB; omega⟩
      obtain ⟨b1, d, b2, b3⟩ := a5 i v hv
      exact ⟨b1, d, b2, b3.keep hx.keep⟩
  · rw [List.length_append, List.length_singleton] at hB
    have hl1 : (if id = M.length then some _ else J id) = some l2 := hl1
    rw [if_neg (by omega), h.dom id (by omega)] at hl1
    cases hl1
  · rw [List.length_append, List.length_singleton] at hid
    show (if id = M.length then some l else J id) = none
    rw [if_neg (by omega)]
    exact h.dom id (by omega)

end
end Go.Proofs.Ytfkecldlhngjhaa.Ev

/- Lists and records that come in by a law's parameters. -/
namespace Go.Proofs.Ytfkecldlhngjhaa.Ev
set_option linter.all false
open Go Go.ChangeShapes Go.WideShapes Go.RowKit

theorem add_add (a : Addr) (m j : Nat) : (a.add m).add j = a.add (m + j) := by
  unfold Addr.add
  by_cases hm : m = 0
  · subst hm; simp
  · by_cases hj : j = 0
    · subst hj; simp [hm]
    · simp [hm, hj, Nat.add_assoc]

theorem cell_some {w : World} {a : Addr} {k : Nat} {v : Value} (h : w.cell? (a.add k) = some v) (hs : k = 0 → a.spot = none) :
    ∃ (ds : Array Value) (e : TypeId) (lo hi : Nat), w.heap[a.block]? = some (.cells ds e (lo, hi)) ∧ ds[a.off + k]? = some v := by
  have hb : (a.add k).block = a.block := by unfold Addr.add; split <;> rfl
  have ho : (a.add k).off = a.off + k := by
    unfold Addr.add
    split
    · rename_i hk; subst hk; rfl
    · rfl
  unfold World.cell? at h
  rw [hb, ho] at h
  split at h
  · rename_i c e r hc
    split at h
    · cases h
    · exact ⟨c, e, r.1, r.2, hc, h⟩
  · cases h

theorem cell_spot {w : World} {a : Addr} {v : Value} (h : w.cell? (a.add 0) = some v) : a.spot = none := by
  have : a.add 0 = a := by simp [Addr.add]
  rw [this] at h
  unfold World.cell? at h
  split at h
  · split at h
    · cases h
    · rename_i hs
      cases hsp : a.spot with
      | none => rfl
      | some x => rw [hsp] at hs; exact absurd rfl hs
  · cases h

section
variable {P : Program}

theorem Bld.slice {α : Type} {R : Hp → α → List Value → Prop} {ok : α → Prop} {t e : TypeId} {sz : Nat} (ht : P.underlying t = some (.slice e)) (hc : P.cellsOf t = 1) (he : Bld P e sz R ok) :
    Bld P t 1 (fun M l vs => ∃ v, vs = [v] ∧ Sl (R M) sz M v l) (fun l => l.length ≤ maxLen ∧ ∀ x ∈ l, ok x) := by
  refine ⟨hc, by omega, fun {M M' z vs} hp ⟨v, h1, h2⟩ => ⟨v, h1, (h2.pre hp).frame (fun a _ cs h => he.mono hp h) fun _ _ _ _ _ _ => rfl⟩, ?_⟩
  intro H enc w base held fuel cs x h hb J M hr
  rcases DataW.trod_slice ht h with ⟨rfl, _⟩ | ⟨a, len, cap, elems, rest, n, _, rfl, _, hbase, hlc, hm, hlen, hel, hre, _⟩
  · exact ⟨J, M, _, [], .refl _ _, hr, .cons .nsl .nil, by simp [Value.oneCell'], ⟨_, rfl, .inl ⟨rfl, rfl⟩⟩, by simp⟩
  · have hpos := he.pos
    have hesz := he.cells
    have hblk : Blk w := hb a len cap (by simp)
    have hread : ∀ i, i < cap → ∃ c, w.cells? base (a.add (i * sz)) sz = some c ∧ (i < len → ∃ y, DataW.trod enc P w base (fun _ => true) held n e c = some y) := fun i hi => by
      by_cases hil : i < len
      · have h1 := hel i hil
        rw [List.getElem?_eq_getElem (by omega), hesz] at h1
        obtain ⟨c, h2, h3⟩ := Option.bind_eq_some_iff.1 h1
        exact ⟨c, h2, fun _ => ⟨_, h3⟩⟩
      · obtain ⟨h1, h2⟩ := hre rfl
        have h3 := h2 (i - len) (by omega)
        rw [List.getElem?_eq_getElem (by omega), hesz, show len + (i - len) = i by omega] at h3
        obtain ⟨c, h4, h5⟩ := Option.bind_eq_some_iff.1 h3
        exact ⟨c, h4, fun h => absurd h hil⟩
    have key : ∀ m, m ≤ len → ∃ (J' : Inj) (M' : Hp) (vs rc : List Value) (z : List α), Ext J M J' M' ∧ RdRel J' M' w ∧ LRel J' M' vs rc ∧ (∀ v ∈ vs, v.oneCell' = true) ∧ vs.length = m * sz ∧
        (∀ k, k < m * sz → w.cell? (a.add k) = rc[k]?) ∧ z.length = m ∧ ∀ i x, z[i]? = some x → R M' x ((vs.drop (i * sz)).take sz) ∧ ok x := fun m => by
      induction m with
      | zero => exact fun _ => ⟨J, M, [], [], [], .refl _ _, hr, .nil, by simp, by simp, fun k hk => by omega, rfl, fun i x hx => by simp at hx⟩
      | succ m ih =>
        intro hml
        obtain ⟨J1, M1, vs1, rc1, z1, e1, r1, l1, o1, n1, c1, zl1, zr1⟩ := ih (by omega)
        obtain ⟨c, hc1, hc2⟩ := hread m (by omega)
        obtain ⟨y, hy⟩ := hc2 (by omega)
        obtain ⟨_, hcl, hcell⟩ := World.cells?_some hc1
        obtain ⟨J2, M2, vs2, z2, e2, r2, l2, o2, p2, k2⟩ := he.bld hy (fun _ _ _ _ => hblk) J1 M1 r1
        have hv2 : vs2.length = sz := by rw [l2.1, hcl]
        refine ⟨J2, M2, vs1 ++ vs2, rc1 ++ c, z1 ++ [z2], e1.trans e2, r2, (l1.keep e2.keep).append l2, fun v hv => ?_, by rw [List.length_append, n1, hv2, Nat.succ_mul], fun k hk => ?_, by simp [zl1], fun i x hx => ?_⟩
        · rcases List.mem_append.1 hv with h | h
          · exact o1 v h
          · exact o2 v h
        · have hrc : rc1.length = m * sz := by rw [← l1.1, n1]
          by_cases hkm : k < m * sz
          · rw [List.getElem?_append_left (by omega)]
            exact c1 k hkm
          · rw [Nat.succ_mul] at hk
            rw [List.getElem?_append_right (by omega), hrc, ← hcell (k - m * sz) (by omega), add_add, show m * sz + (k - m * sz) = k by omega]
        · by_cases hi : i < m
          · rw [List.getElem?_append_left (by omega)] at hx
            obtain ⟨q1, q2⟩ := zr1 i x hx
            refine ⟨?_, q2⟩
            have hle : (i + 1) * sz ≤ m * sz := Nat.mul_le_mul_right _ hi
            rw [Nat.succ_mul] at hle
            rw [List.drop_append_of_le_length (by omega), List.take_append_of_le_length (by rw [List.length_drop]; omega)]
            exact he.mono e2.1 q1
          · have hil := (List.getElem?_eq_some_iff.1 hx).1
            rw [List.length_append, List.length_singleton] at hil
            have him : i = m := by omega
            subst him
            rw [List.getElem?_append_right (by omega), zl1, Nat.sub_self] at hx
            cases hx
            refine ⟨?_, k2⟩
            rw [List.drop_append_of_le_length (by omega), List.drop_of_length_le (by omega), List.nil_append, List.take_of_length_le (by omega)]
            exact p2
    obtain ⟨J1, M1, vs, rc, z, e1, r1, l1, o1, n1, c1, zl, zr⟩ := key len (Nat.le_refl _)
    have fin : ∀ (l : Loc) (ds : Array Value) (e' : TypeId) (lo hi : Nat), w.heap[l.b]? = some (.cells ds e' (lo, hi)) → ds.size = l.sz → l.sh + vs.length ≤ l.sz → LRel J1 M1 vs ((ds.toList.drop l.sh).take vs.length) →
        ((len = 0 ∧ cap = 0) ∨ (a = ⟨l.b, l.sh + 0, none⟩ ∧ l.sh + 0 + cap * sz ≤ l.sz)) →
        ∃ (J' : Inj) (M' : Hp) (vs : List Value) (z : List α), Ext J M J' M' ∧ RdRel J' M' w ∧ LRel J' M' vs [.slice (some a) len cap] ∧ (∀ v ∈ vs, v.oneCell' = true) ∧ (∃ v, vs = [v] ∧ Sl (R M') sz M' v z) ∧ (z.length ≤ maxLen ∧ ∀ x ∈ z, ok x) := fun l ds e' lo hi h1 h2 h3 h4 h5 => by
      obtain ⟨x1, x2⟩ := r1.push h1 h2 h3 h4 o1
      refine ⟨_, _, [.slice (some ⟨M1.length, 0, some sz⟩) len (len * sz)], z, e1.trans x1, x2, .cons (.sl _ _ _ _ _ vs a cap (by simp) (by omega) hlc (Nat.mul_le_mul_right _ hlc) fun _ => ⟨l, by simp, h5⟩) .nil, by simp [Value.oneCell'], ⟨_, rfl, ?_⟩, by omega, fun y hy => ?_⟩
      · refine .inr ⟨M1.length, 0, len * sz, vs, by rw [zl], by simp, by omega, by rw [zl]; omega, by unfold maxLen at hm; omega, fun i y hy => ?_⟩
        rw [Nat.zero_add]
        exact he.mono x1.1 (zr i y hy).1
      · obtain ⟨i, hi⟩ := List.getElem?_of_mem hy
        exact (zr i y hi).2
    by_cases hcap : cap = 0
    · have hl0 : len = 0 := by omega
      obtain ⟨b, ds, e', lo, hi, hbk⟩ := hblk
      have hv0 : vs = [] := List.eq_nil_of_length_eq_zero (by rw [n1, hl0]; omega)
      refine fin ⟨b, 0, ds.size⟩ ds e' lo hi hbk rfl (by rw [hv0]; simp) ?_ (.inl ⟨hl0, hcap⟩)
      rw [hv0]
      exact ⟨by simp, fun i x y hx => by simp at hx⟩
    · obtain ⟨c0, hc0, _⟩ := hread 0 (by omega)
      obtain ⟨_, hcl0, hcell0⟩ := World.cells?_some hc0
      have q0 := hcell0 0 hpos
      rw [add_add, Nat.zero_mul, Nat.zero_add, List.getElem?_eq_getElem (by omega)] at q0
      have hspot := cell_spot q0
      obtain ⟨ds, e', lo, hi, hbk, _⟩ := cell_some q0 fun _ => hspot
      have hcells : ∀ k v, w.cell? (a.add k) = some v → ds[a.off + k]? = some v := fun k v hv => by
        obtain ⟨ds2, e2, lo2, hi2, hb2, hd2⟩ := cell_some hv fun _ => hspot
        rw [hbk] at hb2
        cases hb2
        exact hd2
      obtain ⟨c9, hc9, _⟩ := hread (cap - 1) (by omega)
      obtain ⟨_, hcl9, hcell9⟩ := World.cells?_some hc9
      have q9 := hcell9 (sz - 1) (by omega)
      rw [add_add, List.getElem?_eq_getElem (by omega)] at q9
      have hsz9 := (Array.getElem?_eq_some_iff.1 (hcells _ _ q9)).1
      have hmul : (cap - 1) * sz + sz = cap * sz := by
        rw [← Nat.succ_mul]
        congr 1
        omega
      have hlm : len * sz ≤ cap * sz := Nat.mul_le_mul_right _ hlc
      refine fin ⟨a.block, a.off, ds.size⟩ ds e' lo hi hbk rfl (by simp only; omega) ⟨?_, fun i x y hx hy => ?_⟩ (.inr ⟨?_, by simp only; omega⟩)
      · rw [List.length_take, List.length_drop, Array.length_toList]
        show vs.length = min vs.length (ds.size - a.off)
        omega
      · have hi2 := (List.getElem?_eq_some_iff.1 hx).1
        obtain ⟨y2, hy2, hr2⟩ := l1.get hx
        have := c1 i (by omega)
        rw [hy2] at this
        have h3 := hcells _ _ this
        rw [take_drop_get, if_pos hi2, Array.getElem?_toList, h3] at hy
        cases hy
        exact hr2
      · cases a
        simp only at hspot
        subst hspot
        rfl

/-- Fields in line, from an offset on. -/
structure SeqB {α : Type} (P : Program) (sz : Nat) (R : Hp → α → List Value → Prop) (ok : α → Prop) (fs : List (TypeId × Nat)) (off : Nat) : Prop where
  pos : 0 < sz
  mono : ∀ {M M' : Hp} {z : α} {vs : List Value}, M <+: M' → R M z vs → R M' z vs
  bld : ∀ {H : Type} {enc : TypeId × Value → H} {w : World} {base : Nat} {held : Bool} {fuel : Nat} {cs : List Value}, cs.length = off + sz →
    (∀ f, f ∈ fs → ∃ y, DataW.trod enc P w base (fun _ => true) held fuel f.1 ((cs.drop f.2).take (P.cellsOf f.1)) = some y) → (∀ a l c, .slice (some a) l c ∈ cs → Blk w) → ∀ (J : Inj) (M : Hp), RdRel J M w →
    ∃ (J' : Inj) (M' : Hp) (vs : List Value) (z : α), Ext J M J' M' ∧ RdRel J' M' w ∧ LRel J' M' vs (cs.drop off) ∧ (∀ v ∈ vs, v.oneCell' = true) ∧ R M' z vs ∧ ok z

theorem SeqB.one {α : Type} {R : Hp → α → List Value → Prop} {ok : α → Prop} {t : TypeId} {sz off : Nat} (h : Bld P t sz R ok) : SeqB P sz R ok [(t, off)] off :=
  ⟨h.pos, h.mono, fun {H enc w base held fuel cs} hl hf hb J M hr => by
    obtain ⟨y, hy⟩ := hf (t, off) (by simp)
    have e : (cs.drop off).take (P.cellsOf t) = cs.drop off := List.take_of_length_le (by rw [List.length_drop, h.cells]; omega)
    simp only [e] at hy
    exact h.bld hy (fun a l c hm => hb a l c (List.mem_of_mem_drop hm)) J M hr⟩

theorem SeqB.cons {α β : Type} {R1 : Hp → α → List Value → Prop} {R2 : Hp → β → List Value → Prop} {ok1 : α → Prop} {ok2 : β → Prop} {t : TypeId} {s1 s2 off off' : Nat} {fs : List (TypeId × Nat)} (h : Bld P t s1 R1 ok1) (ho : off' = off + s1) (hs : SeqB P s2 R2 ok2 fs off') :
    SeqB P (s1 + s2) (fun M (x : α × β) vs => ∃ u v, vs = u ++ v ∧ R1 M x.1 u ∧ R2 M x.2 v) (fun x => ok1 x.1 ∧ ok2 x.2) ((t, off) :: fs) off := by
  refine ⟨by have := h.pos; omega, fun {M M' z vs} hp ⟨u, v, e, a, b⟩ => ⟨u, v, e, h.mono hp a, hs.mono hp b⟩, ?_⟩
  intro H enc w base held fuel cs hl hf hb J M hr
  obtain ⟨y, hy⟩ := hf (t, off) (by simp)
  have hl' : cs.length = off + (s1 + s2) := hl
  obtain ⟨J1, M1, vs1, z1, e1, r1, l1, o1, p1, k1⟩ := h.bld hy (fun a l c hm => hb a l c (List.mem_of_mem_drop (List.mem_of_mem_take hm))) J M hr
  obtain ⟨J2, M2, vs2, z2, e2, r2, l2, o2, p2, k2⟩ := hs.bld (by rw [ho]; omega) (fun f hff => hf f (List.mem_cons_of_mem _ hff)) hb J1 M1 r1
  refine ⟨J2, M2, vs1 ++ vs2, (z1, z2), e1.trans e2, r2, ?_, fun v hv => ?_, ⟨vs1, vs2, rfl, h.mono e2.1 p1, p2⟩, k1, k2⟩
  · have := (l1.keep e2.keep).append l2
    rw [h.cells, ho, ← List.drop_drop, List.take_append_drop] at this
    exact this
  · rcases List.mem_append.1 hv with hm | hm
    · exact o1 v hm
    · exact o2 v hm

theorem Bld.struct {α : Type} {R : Hp → α → List Value → Prop} {ok : α → Prop} {t : TypeId} {sz : Nat} {fs : Array Field} (ht : P.underlying t = some (.struct fs)) (hc : P.cellsOf t = sz) (hs : SeqB P sz R ok (fs.toList.map fun f => (f.type, f.offset)) 0) : Bld P t sz R ok := by
  refine ⟨hc, hs.pos, hs.mono, fun {H enc w base held fuel cs x} h hb J M hr => ?_⟩
  obtain ⟨xs, n, _, _, hl, hxl, hx⟩ := DataW.trod_struct ht h
  have := hs.bld (enc := enc) (w := w) (base := base) (held := held) (fuel := n) (cs := cs) (by rw [hl, hc]; omega) (fun y hy => by
    obtain ⟨fl, hfl, rfl⟩ := List.mem_map.1 hy
    obtain ⟨i, hi⟩ := List.getElem?_of_mem hfl
    have hi' : fs[i]? = some fl := by rw [← hi]; simp
    have := hx i fl hi'
    have hlt : i < xs.length := by
      have := (List.getElem?_eq_some_iff.1 hi).1
      simp at this
      omega
    rw [List.getElem?_eq_getElem hlt] at this
    exact ⟨_, this⟩) hb J M hr
  simpa using this

theorem Bld.conv {α β : Type} {R : Hp → α → List Value → Prop} {R' : Hp → β → List Value → Prop} {ok : α → Prop} {ok' : β → Prop} {t : TypeId} {sz : Nat} (h : Bld P t sz R ok) (f : α → β) (hR : ∀ M z vs, R M z vs → R' M (f z) vs) (hm : ∀ {M M' : Hp} {z : β} {vs : List Value}, M <+: M' → R' M z vs → R' M' z vs) (hk : ∀ z, ok z → ok' (f z)) : Bld P t sz R' ok' :=
  ⟨h.cells, h.pos, hm, fun ht hb J M hr => by
    obtain ⟨J', M', vs, z, a1, a2, a3, a4, a5, a6⟩ := h.bld ht hb J M hr
    exact ⟨J', M', vs, f z, a1, a2, a3, a4, hR _ _ _ a5, hk _ a6⟩⟩

end
end Go.Proofs.Ytfkecldlhngjhaa.Ev

/- A law's parameters, one by one, and the whole of it. -/
namespace Go.Proofs.Ytfkecldlhngjhaa.Ev
set_option linter.all false
open Go Go.ChangeShapes Go.WideShapes Go.RowKit

structure ArgB {α : Type} (P : Program) (t : TypeId) (V : Hp → α → Value → Prop) (ok : α → Prop) : Prop where
  mono : ∀ {M M' : Hp} {z : α} {v : Value}, M <+: M' → V M z v → V M' z v
  arg : ∀ {H : Type} {enc : TypeId × Value → H} {w : World} {v : Value} {D : DataW H} {ps : List MemPlace} {base : Nat}, DataW.Trod enc P w 0 (fun _ => true) true t v D ps → Value.okWide P w .any base t v → ∀ (J : Inj) (M : Hp), RdRel J M w →
    ∃ (J' : Inj) (M' : Hp) (u : Value) (z : α), Ext J M J' M' ∧ RdRel J' M' w ∧ VRel J' M' u v ∧ V M' z u ∧ ok z

section
variable {P : Program}

theorem blk_of_shape {w : World} {r : Nat} {x : TypeId × Nat} (h : w.shape? r = some x) : Blk w := by
  unfold World.shape? at h
  split at h
  · rename_i c e q hc
    exact ⟨r, c, e, q.1, q.2, hc⟩
  · cases h

theorem cell_blk {w : World} {r : Reach} {base : Nat} {t : TypeId} {a : Addr} {l c : Nat} (h : Cell.okWide P w r base t (.slice (some a) l c)) : Blk w := by
  unfold Cell.okWide at h
  have h2 : Cell.ok P w r base t (.slice (some a) l c) := by
    revert h
    cases P.underlying t with
    | none => exact fun h => h
    | some d => cases d <;> exact fun h => h
  unfold Cell.ok at h2
  revert h2
  cases P.underlying t with
  | none => exact fun h => h.elim
  | some d => cases d <;> first | exact fun h => h.elim | exact fun h => by obtain ⟨_, _, _, _, row, cells, hs, _⟩ := h; exact blk_of_shape hs

theorem ArgB.one {α : Type} {R : Hp → α → List Value → Prop} {ok : α → Prop} {t : TypeId} (h : Bld P t 1 R ok) (hk : ∀ {w : World} {r : Reach} {base : Nat} {v : Value}, Value.okWide P w r base t v → v.cells = #[v] ∧ Cell.okWide P w r base t v) :
    ArgB P t (fun M z v => R M z [v]) ok :=
  ⟨h.mono, fun {H enc w v D ps base} hT hv J M hr => by
    obtain ⟨fuel, hf⟩ := hT
    obtain ⟨hc, hcell⟩ := hk hv
    rw [hc] at hf
    obtain ⟨J', M', vs, z, a1, a2, a3, a4, a5, a6⟩ := h.bld hf (fun a l c hm => by
      have h9 : Value.slice (some a) l c = v := by simpa using hm
      rw [← h9] at hcell
      exact cell_blk hcell) J M hr
    obtain ⟨u, rfl⟩ : ∃ u, vs = [u] := by
      have := a3.1
      cases vs with
      | nil => simp at this
      | cons y l => cases l with
        | nil => exact ⟨y, rfl⟩
        | cons z l => simp at this
    exact ⟨J', M', u, z, a1, a2, a3.2 0 u v rfl rfl, a5, a6⟩⟩

theorem ArgB.slice {α : Type} {R : Hp → α → List Value → Prop} {ok : α → Prop} {t e : TypeId} {sz : Nat} (ht : P.underlying t = some (.slice e)) (hc : P.cellsOf t = 1) (he : Bld P e sz R ok) :
    ArgB P t (fun M l v => Sl (R M) sz M v l) (fun l => l.length ≤ maxLen ∧ ∀ x ∈ l, ok x) := by
  have h := ArgB.one (Bld.slice ht hc he) (fun {w r base v} hv => by
    obtain ⟨a, len, cap, rfl⟩ := okWide_slice ht hv
    exact ⟨rfl, by unfold Value.okWide at hv; rw [ht] at hv; exact hv⟩)
  exact ⟨fun hp hs => by
    obtain ⟨v, e, h2⟩ := h.mono hp ⟨_, rfl, hs⟩
    cases e
    exact h2, fun hT hv J M hr => by
    obtain ⟨J', M', u, z, a1, a2, a3, ⟨v, e, h2⟩, a5⟩ := h.arg hT hv J M hr
    cases e
    exact ⟨J', M', u, z, a1, a2, a3, h2, a5⟩⟩

theorem ArgB.int {k : IntKind} {t : TypeId} (ht : P.underlying t = some (.int k)) (hc : P.cellsOf t = 1) : ArgB P t (fun _ n v => v = .int k n) (fun n => (Lit.int k n).wf = true) := by
  have h := ArgB.one (Bld.int ht hc) (fun {w r base v} hv => by
    obtain ⟨n, rfl⟩ := okWide_int ht hv
    exact ⟨rfl, by unfold Value.okWide at hv; rw [ht] at hv; exact hv⟩)
  exact ⟨fun _ h => h, fun hT hv J M hr => by
    obtain ⟨J', M', u, z, a1, a2, a3, a4, a5⟩ := h.arg hT hv J M hr
    exact ⟨J', M', u, z, a1, a2, a3, by simpa using a4, a5⟩⟩

theorem ArgB.bool {t : TypeId} (ht : P.underlying t = some .bool) (hc : P.cellsOf t = 1) : ArgB P t (fun _ b v => v = .bool b) (fun _ => True) := by
  have h := ArgB.one (Bld.bool ht hc) (fun {w r base v} hv => by
    obtain ⟨n, rfl⟩ := okWide_bool ht hv
    exact ⟨rfl, by unfold Value.okWide at hv; rw [ht] at hv; exact hv⟩)
  exact ⟨fun _ h => h, fun hT hv J M hr => by
    obtain ⟨J', M', u, z, a1, a2, a3, a4, a5⟩ := h.arg hT hv J M hr
    exact ⟨J', M', u, z, a1, a2, a3, by simpa using a4, a5⟩⟩

theorem ArgB.string {t : TypeId} (ht : P.underlying t = some .string) (hc : P.cellsOf t = 1) : ArgB P t (fun _ s v => v = .string s) (fun s => s.size ≤ maxLen) := by
  have h := ArgB.one (Bld.string ht hc) (fun {w r base v} hv => by
    obtain ⟨n, rfl⟩ := okWide_string ht hv
    exact ⟨rfl, by unfold Value.okWide at hv; rw [ht] at hv; exact hv⟩)
  exact ⟨fun _ h => h, fun hT hv J M hr => by
    obtain ⟨J', M', u, z, a1, a2, a3, a4, a5⟩ := h.arg hT hv J M hr
    exact ⟨J', M', u, z, a1, a2, a3, by simpa using a4, a5⟩⟩

theorem ArgB.struct {α : Type} {R : Hp → α → List Value → Prop} {ok : α → Prop} {t : TypeId} {sz : Nat} {fs : Array Field} (ht : P.underlying t = some (.struct fs)) (h : Bld P t sz R ok) :
    ArgB P t (fun M z v => ∃ vs, v = .agg vs ∧ R M z vs.toList) ok :=
  ⟨fun hp ⟨vs, e, hR⟩ => ⟨vs, e, h.mono hp hR⟩, fun {H enc w v D ps base} hT hv J M hr => by
    obtain ⟨fuel, hf⟩ := hT
    have hv2 := hv
    unfold Value.okWide at hv2
    rw [ht] at hv2
    obtain ⟨cs, rfl, hsz, ts, _, _, hcs⟩ := hv2
    obtain ⟨J', M', vs, z, a1, a2, a3, a4, a5, a6⟩ := h.bld hf (fun a l c hm => by
      obtain ⟨i, hi⟩ := List.getElem?_of_mem hm
      obtain ⟨u, _, hok⟩ := hcs i _ (by simpa [Value.cells] using hi)
      exact cell_blk hok) J M hr
    refine ⟨J', M', .agg vs.toArray, z, a1, a2, ?_, ⟨vs.toArray, rfl, a5⟩, a6⟩
    have hl := a3.1
    refine .agg _ _ (by simpa [Value.cells] using hl) (fun i x hx => a4 x (List.mem_of_getElem? (by simpa using hx))) fun i x y hx hy => a3.2 i x y (by simpa using hx) (by simpa [Value.cells] using hy)⟩

/-- The small machine's answer is Go's. -/
theorem law_run {E : Env} {hv : Nat → Nat → Bool} {J : Inj} {M : Hp} {w : World} {vs : List Value} {cs : Array Value} {f : Nat} (hmix : P.follows .mixedOrders = true) (hE : E.fns = fnsOf P hv) (hp : ∀ f, E.prim f = none) (hr : RdRel J M w) (hl : LRel J M vs cs.toList)
    (h : Fun E { wr := fun id => decide (M.length ≤ id), nr := false } f vs M fun r _ => r = .bool true) : Calls P f cs w fun e w' => e = .returned (.bool true) ∧ Below w.heap.size w w' := by
  obtain ⟨k, r, H', h1, rfl⟩ := h
  exact law_calls hmix hE (fun f p h => by rw [hp] at h; cases h) (fun f p h => by rw [hp] at h; cases h) h1 hr hl

end
end Go.Proofs.Ytfkecldlhngjhaa.Ev

/- Growing a slice of one's own. -/
namespace Go.Proofs.Ytfkecldlhngjhaa.Ev
set_option linter.all false
open Go

section
variable {m : Md} {α : Type} {R : α → List Value → Prop} {esz : Nat} {H : Hp} {v : Value} {l : List α}

theorem Sl.app {N n bytes : Nat} {l2 : List α} {cs : List Value} (h : Sl R esz H v l) (ho : OwnS N v) (hN : N ≤ H.length) (hw : ∀ id, N ≤ id → m.wr id = true) (hnr : m.nr = true → cs.all scal = true) (hpos : 0 < l2.length) (hcs : cs.length = l2.length * esz)
    (hr : ∀ (i : Nat) a, l2[i]? = some a → R a ((cs.drop (i * esz)).take esz)) (hb : (l.length + l2.length) * bytes ≤ Ev.room) (hb2 : l.length + l2.length ≤ Ev.room) :
    ∃ v' H', (∀ (s : St) (x y : X), s.H = H → exv s.ρ x = some v → srcOf H esz (ex s.ρ y) = some (l2.length, cs) → appK m s esz bytes x y = some (.val v', { s with H := H' })) ∧ Sl R esz H' v' (l ++ l2) ∧ OwnS N v' ∧
      (∀ j, j < H.length → j ∉ idsOf v → H'[j]? = H[j]?) ∧ H.length ≤ H'.length ∧ (∀ j ∈ idsOf v', j ∈ idsOf v ∨ H.length ≤ j) ∧ ∀ H0 : Hp, H0.length ≤ N → H0 <+: H → H0 <+: H' := by
  have hb3 : l.length + l2.length ≤ 9223372036854775807 := by unfold Ev.room at hb2; omega
  rcases ho with rfl | ⟨id, e, ln, cap, rfl, hid⟩
  · have hl : l = [] := by
      rcases h with ⟨_, h⟩ | ⟨_, _, _, _, h, _⟩
      · exact h
      · cases h
    subst hl
    simp only [List.length_nil, Nat.zero_add] at hb hb2 hb3
    refine ⟨.slice (some ⟨H.length, 0, some esz⟩) l2.length (l2.length * esz), H ++ [cs], fun s x y hH hx hy => ?_, .inr ⟨H.length, 0, l2.length * esz, cs, by simp, by simp, by omega, by simp, by simpa using hb3, fun i a hi => ?_⟩,
      .inr ⟨_, _, _, _, rfl, hN⟩, fun j hj _ => by rw [List.getElem?_append_left hj], by simp, fun j hj => ?_, fun H0 _ hp => pre_push hp⟩
    · unfold appK
      rw [hx, hH, hy]
      simp only
      rw [if_neg (by omega), if_pos ⟨hb, hb2⟩]
    · rw [Nat.zero_add]
      exact hr i a (by simpa using hi)
    · simp [idsOf] at hj
      exact .inr (by omega)
  · rcases h with ⟨h, _⟩ | ⟨id', off, cap', o, h, hg, hoc, hlc, hroom, hrr⟩
    · cases h
    cases h
    have hidl := (List.getElem?_eq_some_iff.1 hg).1
    have hwid := hw id hid
    have hold : ∀ (q : List Value), (∀ k, k < l.length * esz → q[k]? = o[k]?) → ∀ (i : Nat) a, l[i]? = some a → R a ((q.drop (0 + i * esz)).take esz) := fun q hq i a hi => by
      have hil := (List.getElem?_eq_some_iff.1 hi).1
      have hm : (i + 1) * esz ≤ l.length * esz := Nat.mul_le_mul_right _ hil
      rw [Nat.succ_mul] at hm
      have : (q.drop (0 + i * esz)).take esz = (o.drop (0 + i * esz)).take esz := by
        refine List.ext_getElem? fun k => ?_
        rw [take_drop_get, take_drop_get]
        by_cases hk : k < esz
        · rw [if_pos hk, if_pos hk, hq _ (by omega)]
        · rw [if_neg hk, if_neg hk]
      rw [this]
      exact hrr i a hi
    have hnew : ∀ (q : List Value), (∀ k, k < cs.length → q[l.length * esz + k]? = cs[k]?) → ∀ (i : Nat) a, l2[i]? = some a → R a ((q.drop (0 + (l.length + i) * esz)).take esz) := fun q hq i a hi => by
      have hil := (List.getElem?_eq_some_iff.1 hi).1
      have hm : (i + 1) * esz ≤ l2.length * esz := Nat.mul_le_mul_right _ hil
      rw [Nat.succ_mul] at hm
      have : (q.drop (0 + (l.length + i) * esz)).take esz = (cs.drop (i * esz)).take esz := by
        refine List.ext_getElem? fun k => ?_
        rw [take_drop_get, take_drop_get]
        by_cases hk : k < esz
        · rw [if_pos hk, if_pos hk, Nat.zero_add, Nat.add_mul, Nat.add_assoc, hq _ (by omega)]
        · rw [if_neg hk, if_neg hk]
      rw [this]
      exact hr i a hi
    have both : ∀ (q : List Value), (∀ k, k < l.length * esz → q[k]? = o[k]?) → (∀ k, k < cs.length → q[l.length * esz + k]? = cs[k]?) → ∀ (i : Nat) a, (l ++ l2)[i]? = some a → R a ((q.drop (0 + i * esz)).take esz) := fun q h1 h2 i a hi => by
      by_cases hil : i < l.length
      · rw [List.getElem?_append_left hil] at hi
        exact hold q h1 i a hi
      · rw [List.getElem?_append_right (by omega)] at hi
        have := hnew q h2 _ a hi
        rw [show l.length + (i - l.length) = i by omega] at this
        exact this
    by_cases hfit : (l.length + l2.length) * esz ≤ cap
    · have hfit' : l.length * esz + cs.length ≤ cap := by rw [hcs, ← Nat.add_mul]; exact hfit
      refine ⟨.slice (some ⟨id, 0, some esz⟩) (l.length + l2.length) cap, H.set id (spl o (0 + l.length * esz) cs), fun s x y hH hx hy => ?_, .inr ⟨id, 0, cap, _, by rw [List.length_append], by rw [List.getElem?_set_self hidl], by rw [spl_length]; exact hoc, by rw [List.length_append]; exact hfit, by rw [List.length_append]; exact hb3,
        both _ (fun k hk => ?_) (fun k hk => ?_)⟩, .inr ⟨_, _, _, _, rfl, hid⟩, fun j hj hne => ?_, by simp, fun j hj => .inl hj, fun H0 h0 hp => pre_set hp (by omega)⟩
      · unfold appK
        rw [hx, hH, hy]
        simp only
        rw [if_neg (by omega), hg]
        simp only
        rw [if_pos ⟨trivial, hoc, hwid, hnr⟩, if_pos hfit]
      · rw [spl_get, if_neg (by omega)]
      · rw [spl_get, if_pos (by omega), if_pos (by omega)]
        congr 1
        omega
      · rw [List.getElem?_set_ne]
        simp [idsOf] at hne
        omega
    · have htl : (o.take (l.length * esz)).length = l.length * esz := by rw [List.length_take]; omega
      refine ⟨.slice (some ⟨id, 0, some esz⟩) (l.length + l2.length) ((l.length + l2.length) * esz), H.set id (o.take (l.length * esz) ++ cs), fun s x y hH hx hy => ?_, .inr ⟨id, 0, _, _, by rw [List.length_append], by rw [List.getElem?_set_self hidl], by rw [List.length_append, htl, hcs, ← Nat.add_mul, Nat.zero_add], by rw [List.length_append]; exact Nat.le_refl _, by rw [List.length_append]; exact hb3,
        both _ (fun k hk => ?_) (fun k hk => ?_)⟩, .inr ⟨_, _, _, _, rfl, hid⟩, fun j hj hne => ?_, by simp, fun j hj => .inl hj, fun H0 h0 hp => pre_set hp (by omega)⟩
      · unfold appK
        rw [hx, hH, hy]
        simp only
        rw [if_neg (by omega), hg]
        simp only
        rw [if_pos ⟨trivial, hoc, hwid, hnr⟩, if_neg hfit, if_pos ⟨trivial, by omega, hb, hb2⟩]
      · rw [List.getElem?_append_left (by omega), List.getElem?_take, if_pos hk]
      · rw [List.getElem?_append_right (by omega), htl, show l.length * esz + k - l.length * esz = k by omega]
      · rw [List.getElem?_set_ne]
        simp [idsOf] at hne
        omega

theorem Sl.src (h : Sl R esz H v l) : ∃ cs, srcOf H esz (.val v) = some (l.length, cs) ∧ cs.length = l.length * esz ∧ ∀ (i : Nat) a, l[i]? = some a → R a ((cs.drop (i * esz)).take esz) := by
  rcases h with ⟨rfl, rfl⟩ | ⟨id, off, cap, o, rfl, hg, hoc, hlc, hroom, hrr⟩
  · exact ⟨[], rfl, by simp, fun i a hi => by simp at hi⟩
  · refine ⟨(o.drop off).take (l.length * esz), ?_, by rw [List.length_take, List.length_drop]; omega, fun i a hi => ?_⟩
    · simp only [srcOf, rowOf, hg]
      rw [if_pos hoc]
      simp only
      rw [if_pos ⟨trivial, by omega⟩]
    · have hil := (List.getElem?_eq_some_iff.1 hi).1
      have hm : (i + 1) * esz ≤ l.length * esz := Nat.mul_le_mul_right _ hil
      rw [Nat.succ_mul] at hm
      have : (((o.drop off).take (l.length * esz)).drop (i * esz)).take esz = (o.drop (off + i * esz)).take esz := by
        refine List.ext_getElem? fun k => ?_
        rw [take_drop_get ((o.drop off).take (l.length * esz)) (i * esz) esz k, take_drop_get o (off + i * esz) esz k]
        by_cases hk : k < esz
        · rw [if_pos hk, if_pos hk, take_drop_get, if_pos (by omega), Nat.add_assoc]
        · rw [if_neg hk, if_neg hk]
      rw [this]
      exact hrr i a hi

theorem Sl.copy {bytes : Nat} (h : Sl R esz H v l) (hb : l.length * bytes ≤ Ev.room) (hb2 : l.length ≤ Ev.room) :
    ∃ v' H', (∀ (s : St) (x y : X), s.H = H → exv s.ρ x = some (.slice none 0 0) → ex s.ρ y = .val v → appK m s esz bytes x y = some (.val v', { s with H := H' })) ∧ H <+: H' ∧ Sl R esz H' v' l ∧ OwnS H.length v' := by
  obtain ⟨cs, h1, h2, h3⟩ := h.src
  by_cases h0 : l.length = 0
  · have hl : l = [] := List.eq_nil_of_length_eq_zero h0
    subst hl
    refine ⟨.slice none 0 0, H, fun s x y hH hx hy => ?_, List.prefix_refl _, .inl ⟨rfl, rfl⟩, .inl rfl⟩
    subst hH
    unfold appK
    rw [hx, hy, h1]
    rfl
  · refine ⟨.slice (some ⟨H.length, 0, some esz⟩) l.length (l.length * esz), H ++ [cs], fun s x y hH hx hy => ?_, List.prefix_append _ _, .inr ⟨H.length, 0, l.length * esz, cs, rfl, by simp, by omega, Nat.le_refl _, by unfold Ev.room at hb2; omega, fun i a hi => ?_⟩, .inr ⟨_, _, _, _, rfl, Nat.le_refl _⟩⟩
    · unfold appK
      rw [hx, hH, hy, h1]
      simp only
      rw [if_neg h0, if_pos ⟨hb, hb2⟩]
    · rw [Nat.zero_add]
      exact h3 i a hi

end
end Go.Proofs.Ytfkecldlhngjhaa.Ev

/- slices.Sort of whole numbers, by its contract off the kit's shelf. -/
namespace Go.Proofs.Ytfkecldlhngjhaa.Ev
set_option linter.all false
open Go

end Go.Proofs.Ytfkecldlhngjhaa.Ev

/- Functions that are told by themselves: the calls, and the law's row. -/
namespace Go.Proofs.Ytfkecldlhngjhaa.Ev
set_option linter.all false
open Go RowKit

theorem Fun.prim {E : Env} {m : Md} {f : Nat} {vs : List Value} {H H' : Hp} {r : Value} {p : Md → List Value → Hp → Option (Value × Hp)} {Q : Value → Hp → Prop} (hp : E.prim f = some p) (h : p m vs H = some (r, H')) (hq : Q r H') : Fun E m f vs H Q :=
  ⟨1, r, H', by rw [evF, hp]; exact h, hq⟩

end Go.Proofs.Ytfkecldlhngjhaa.Ev

/- Numbers that rise: plain. -/
namespace Go.Proofs.Ytfkecldlhngjhaa.Ev
set_option linter.all false
open Go

end Go.Proofs.Ytfkecldlhngjhaa.Ev

/- The rest of a slice; what lies behind a place, cleared. -/
namespace Go.Proofs.Ytfkecldlhngjhaa.Ev
set_option linter.all false
open Go

section
variable {m : Md} {α : Type} {R : α → List Value → Prop} {esz : Nat} {H : Hp} {v : Value} {l : List α}

theorem Sl.drop (h : Sl R esz H v l) {i : Nat} (hi : i ≤ l.length) : ∃ v', (∀ (s : St) (x y : X), exv s.ρ x = some v → exv s.ρ y = some (.int .i64 i) → slcK s esz x (some y) none = some (.val v', s)) ∧
    (∀ j ∈ idsOf v', j ∈ idsOf v) ∧ ∀ (H' : Hp) (l' : List α), l'.length = l.length → Sl R esz H' v l' → Sl R esz H' v' (l'.drop i) := by
  rcases h with ⟨rfl, rfl⟩ | ⟨id, off, cap, o, rfl, ho, hc, hn, hrm, hr⟩
  · simp at hi
    subst hi
    refine ⟨.slice none 0 0, fun s x y hx hy => ?_, fun j hj => hj, fun H' l' hl h => by rw [List.eq_nil_of_length_eq_zero hl] at h ⊢; exact h⟩
    simp only [slcK, bnd, hx, hy]
    rfl
  · have hm : i * esz ≤ l.length * esz := Nat.mul_le_mul_right _ hi
    refine ⟨.slice (some ⟨id, off + i * esz, some esz⟩) (l.length - i) (cap - i * esz), fun s x y hx hy => ?_, fun j hj => hj, fun H' l' hl h => ?_⟩
    · simp only [slcK, bnd, hx, hy]
      rw [if_pos ⟨trivial, by omega, by omega, .inl (by omega), by simp; omega⟩]
      simp [St.val]
    · rcases h with ⟨h, _⟩ | ⟨id', off', cap', o', h, ho', hc', hn', hrm', hr'⟩
      · cases h
      · rw [← hl] at h
        cases h
        have hm' : i * esz ≤ l'.length * esz := Nat.mul_le_mul_right _ (by omega)
        refine .inr ⟨id, off + i * esz, cap - i * esz, o', by rw [List.length_drop, hl], ho', by omega, ?_, by rw [List.length_drop]; omega, fun j a hj => ?_⟩
        · rw [List.length_drop, Nat.sub_mul]; omega
        · rw [List.getElem?_drop] at hj
          have := hr' _ a hj
          rw [show off + i * esz + j * esz = off + (i + j) * esz by rw [Nat.add_mul]; omega]
          exact this

theorem Sl.cut (h : Sl R esz H v l) {i : Nat} (hi : i ≤ l.length) {zero : List Value} (hz : zero.length = esz) (hzs : zero.all scal = true) (hw : ∀ id ∈ idsOf v, m.wr id = true) : ∃ v3 v2 H', (∀ (s : St) (x y : X), exv s.ρ x = some v → exv s.ρ y = some (.int .i64 i) → slcK s esz x (some y) none = some (.val v3, s)) ∧
    (∀ (s : St) (x : X), s.H = H → exv s.ρ x = some v3 → clrK m s esz zero x = some (.val (.tuple #[]), { s with H := H' })) ∧
    (∀ (s : St) (x y : X), exv s.ρ x = some v → exv s.ρ y = some (.int .i64 i) → slcK s esz x none (some y) = some (.val v2, s)) ∧ Sl R esz H' v2 (l.take i) ∧ (∀ N, OwnS N v → OwnS N v2) ∧ (∀ j, j ∉ idsOf v → H'[j]? = H[j]?) ∧ H'.length = H.length ∧ ∀ j ∈ idsOf v2, j ∈ idsOf v := by
  rcases h with ⟨rfl, rfl⟩ | ⟨id, off, cap, o, rfl, ho, hc, hn, hrm, hr⟩
  · simp at hi
    subst hi
    refine ⟨.slice none 0 0, .slice none 0 0, H, fun s x y hx hy => ?_, fun s x hH hx => ?_, fun s x y hx hy => ?_, .inl ⟨rfl, by simp⟩, fun N h => h, fun _ _ => rfl, rfl, fun j hj => hj⟩
    · simp only [slcK, bnd, hx, hy]
      rfl
    · subst hH
      simp only [clrK, hx]
      rfl
    · simp only [slcK, bnd, hx, hy]
      rfl
  · have hm : i * esz ≤ l.length * esz := Nat.mul_le_mul_right _ hi
    have hidl := (List.getElem?_eq_some_iff.1 ho).1
    refine ⟨.slice (some ⟨id, off + i * esz, some esz⟩) (l.length - i) (cap - i * esz), .slice (some ⟨id, off, some esz⟩) i cap, H.set id (spl o (off + i * esz) (zeros (l.length - i) zero)), fun s x y hx hy => ?_, fun s x hH hx => ?_, fun s x y hx hy => ?_, .inr ⟨id, off, cap, _, by rw [List.length_take, Nat.min_eq_left hi], List.getElem?_set_self hidl, by rw [spl_length]; exact hc, by rw [List.length_take, Nat.min_eq_left hi]; omega, by rw [List.length_take]; omega, fun j a hj => ?_⟩, fun N h => ?_, fun j hj => ?_, by simp, fun j hj => hj⟩
    · simp only [slcK, bnd, hx, hy]
      rw [if_pos ⟨trivial, by omega, by omega, .inl (by omega), by simp; omega⟩]
      simp [St.val]
    · subst hH
      simp only [clrK, hx, ho]
      rw [if_pos ⟨trivial, by omega, hw id (by simp [idsOf]), hzs, by rw [Nat.sub_mul]; omega⟩]
    · simp only [slcK, bnd, hx, hy]
      rw [if_pos ⟨trivial, by omega, by omega, .inl (by omega), by simp⟩]
      simp [St.val]
    · rw [List.getElem?_take] at hj
      split at hj
      · rename_i hji
        have hm2 : (j + 1) * esz ≤ i * esz := Nat.mul_le_mul_right _ hji
        rw [Nat.succ_mul] at hm2
        rw [spl_other (.inl (by omega))]
        exact hr j a hj
      · cases hj
    · rcases h with h | ⟨id', e, ln, cp, h, hN⟩
      · cases h
      · cases h
        exact .inr ⟨_, _, _, _, rfl, hN⟩
    · rw [List.getElem?_set_ne]
      simp [idsOf] at hj
      omega
end
end Go.Proofs.Ytfkecldlhngjhaa.Ev

/- Ways that come together again; calls that may write what they are handed. -/
namespace Go.Proofs.Ytfkecldlhngjhaa.Ev
set_option linter.all false
open Go

section
variable {E : Env} {m : Md} {s : St} {Q : Ex → St → Prop} {ts : List Tk}

end
end Go.Proofs.Ytfkecldlhngjhaa.Ev

/- Bytes and the numbers that are written in them: plain. -/
namespace Go.Proofs.Ytfkecldlhngjhaa.Ev
set_option linter.all false
open Go

/-- A text of bytes that are told as numbers. -/
def strOf (l : List Nat) : ByteArray := ⟨(l.map UInt8.ofNat).toArray⟩
def varL (n : Nat) : List Nat := if n < 128 then [n] else (n % 128 + 128) :: varL (n / 128)
termination_by n

def varB (n : Int) : ByteArray := if 0 ≤ n ∧ n ≤ 562949953421311 then strOf (varL n.toNat) else ByteArray.empty

/-- What so many bytes say. -/
def valB (s : ByteArray) : Nat → Nat
  | 0 => 0
  | k + 1 => valB s k + (match s[k]? with | some b => b.toNat % 128 | none => 0) * 128 ^ k

theorem valB_lt (s : ByteArray) : ∀ k, valB s k < 128 ^ k
  | 0 => by simp [valB]
  | k + 1 => by
    have := valB_lt s k
    rw [valB, Nat.pow_succ]
    generalize hd : (match s[k]? with | some b => b.toNat % 128 | none => 0) = d
    have h2 : d ≤ 127 := by
      subst hd
      split
      · exact Nat.le_of_lt_succ (Nat.mod_lt _ (by decide))
      · exact Nat.zero_le _
    have h3 := Nat.mul_le_mul_right (128 ^ k) h2
    generalize d * 128 ^ k = q at h3
    omega

/-- Is that the number's text? -/
def isV (s : ByteArray) (k : Nat) : Prop := varB (valB s k) = s.extract 0 k

/-- The number that a text begins with, and how many bytes it has; none without one. -/
def readV (s : ByteArray) (n k : Nat) : Prop := 1 ≤ k ∧ k ≤ 7 ∧ k ≤ s.size ∧ n = valB s k ∧ isV s k
end Go.Proofs.Ytfkecldlhngjhaa.Ev

/- Terms: plain. -/
namespace Go.Proofs.Ytfkecldlhngjhaa.Ev
set_option linter.all false
open Go

/-- The text from a place on. -/
def rest (s : ByteArray) (at_ : Nat) : ByteArray := s.extract at_ s.size
theorem readV.max {s : ByteArray} {n k : Nat} (h : readV s n k) : n ≤ 562949953421311 := by
  obtain ⟨h1, h2, h3, h4, h5⟩ := h
  have := valB_lt s k
  have h6 : 128 ^ k ≤ 128 ^ 7 := Nat.pow_le_pow_right (by decide) h2
  have h7 : (128 : Nat) ^ 7 = 562949953421312 := by decide
  omega

end Go.Proofs.Ytfkecldlhngjhaa.Ev

/- Rows of bytes, and the texts made of them. -/
namespace Go.Proofs.Ytfkecldlhngjhaa.Ev
set_option linter.all false
open Go

def eN (n : Nat) : List Value := [.int .u8 (n : Int)]
abbrev SlN (H : Hp) (v : Value) (l : List Nat) : Prop := Sl (En eN) 1 H v l

theorem bytesOf_map : ∀ {l : List Nat}, (∀ n ∈ l, n < 256) → bytesOf (l.map fun (n : Nat) => Value.int .u8 (n : Int)) = some (l.map UInt8.ofNat)
  | [], _ => rfl
  | a :: l, h => by
    have ih := bytesOf_map (l := l) fun n hn => h n (List.mem_cons_of_mem _ hn)
    have ha := h a (by simp)
    simp only [List.map_cons, bytesOf, ih, byteOf, Int.toNat_natCast]

theorem Sl.b2s {H : Hp} {v : Value} {l : List Nat} (h : SlN H v l) (hl : ∀ n ∈ l, n < 256) : ∀ (s : St) (x : X), s.H = H → ex s.ρ x = .val v → b2sK s x = some (.val (.string (strOf l)), s) := by
  obtain ⟨cs, h1, h2, h3⟩ := h.src
  intro s x hH hx
  have hcs : cs = l.map fun (n : Nat) => Value.int .u8 (n : Int) := by
    refine List.ext_getElem? fun j => ?_
    rw [List.getElem?_map]
    by_cases hj : j < l.length
    · have := h3 j _ (List.getElem?_eq_getElem hj)
      unfold En eN at this
      have h4 := getElem?_of_take this (j := 0) (by omega)
      rw [Nat.mul_one, Nat.add_zero] at h4
      rw [h4, List.getElem?_eq_getElem hj]
      rfl
    · rw [List.getElem?_eq_none (by omega), List.getElem?_eq_none (by omega)]
      rfl
  unfold b2sK
  rw [hx, hH, h1]
  simp only
  rw [hcs, bytesOf_map hl]
  rfl

end Go.Proofs.Ytfkecldlhngjhaa.Ev

/- A number's text, and what follows it, read again: plain. -/
namespace Go.Proofs.Ytfkecldlhngjhaa.Ev
set_option linter.all false
open Go

theorem cat_left {a b : ByteArray} {i : Nat} (h : i < a.size) : (a ++ b)[i]? = a[i]? := by
  show (a ++ b).data[i]? = a.data[i]?
  rw [ByteArray.data_append, Array.getElem?_append_left (show i < a.data.size from h)]
end Go.Proofs.Ytfkecldlhngjhaa.Ev

/- A row of plain elements behind another one; one element taken out of a row. -/
namespace Go.Proofs.Ytfkecldlhngjhaa.Ev
set_option linter.all false
open Go

section
variable {m : Md} {α : Type} {enc : α → List Value} {esz : Nat} {H : Hp} {v u : Value} {l l2 : List α}

theorem chunks_scal {cs : List Value} (he : ∀ a, (enc a).all scal = true) (h0 : 0 < esz) (hl : cs.length = l.length * esz) (hel : ∀ (i : Nat) a, l[i]? = some a → En enc a ((cs.drop (i * esz)).take esz)) : cs.all scal = true := by
  rw [List.all_eq_true]
  intro c hc
  obtain ⟨j, hj⟩ := List.getElem?_of_mem hc
  have hjl := (List.getElem?_eq_some_iff.1 hj).1
  have hdiv : j / esz < l.length := (Nat.div_lt_iff_lt_mul h0).2 (by omega)
  have := hel _ _ (List.getElem?_eq_getElem hdiv)
  unfold En at this
  have hmod := Nat.mod_lt j h0
  have h3 := getElem?_of_take this (j := j % esz) hmod
  have e : j / esz * esz + j % esz = j := by rw [Nat.mul_comm]; exact Nat.div_add_mod j esz
  rw [e, hj] at h3
  have := he l[j / esz]
  rw [List.all_eq_true] at this
  exact this c (List.mem_of_getElem? h3.symm)

theorem Sl.join {N bytes : Nat} (h : Sl (En enc) esz H v l) (h2 : Sl (En enc) esz H u l2) (he : ∀ a, (enc a).all scal = true) (h0 : 0 < esz) (ho : OwnS N v) (hN : N ≤ H.length) (hw : ∀ id, N ≤ id → m.wr id = true)
    (hb : (l.length + l2.length) * bytes ≤ Ev.room) (hb2 : l.length + l2.length ≤ Ev.room) :
    ∃ v' H', (∀ (s : St) (x y : X), s.H = H → exv s.ρ x = some v → ex s.ρ y = .val u → appK m s esz bytes x y = some (.val v', { s with H := H' })) ∧ Sl (En enc) esz H' v' (l ++ l2) ∧ OwnS N v' ∧
      (∀ j, j < H.length → j ∉ idsOf v → H'[j]? = H[j]?) ∧ H.length ≤ H'.length ∧ (∀ j ∈ idsOf v', j ∈ idsOf v ∨ H.length ≤ j) ∧ ∀ H0 : Hp, H0.length ≤ N → H0 <+: H → H0 <+: H' := by
  obtain ⟨cs, hsrc, hcs, hel⟩ := h2.src
  by_cases hn : l2.length = 0
  · have : l2 = [] := List.eq_nil_of_length_eq_zero hn
    subst this
    refine ⟨v, H, fun s x y hH hx hy => ?_, by simpa using h, ho, fun _ _ _ => rfl, Nat.le_refl _, fun j hj => .inl hj, fun _ _ h => h⟩
    subst hH
    unfold appK
    rw [hx, hy, hsrc]
    rcases h with ⟨rfl, _⟩ | ⟨_, _, _, _, rfl, _⟩ <;> rfl
  · obtain ⟨v', H', h1, h2'⟩ := h.app (m := m) (n := 1) (bytes := bytes) (l2 := l2) (cs := cs) ho hN hw (fun _ => chunks_scal he h0 hcs hel) (by omega) hcs hel hb hb2
    exact ⟨v', H', fun s x y hH hx hy => h1 s x y hH hx (by rw [hy]; exact hsrc), h2'⟩

end
end Go.Proofs.Ytfkecldlhngjhaa.Ev

/- Terms within longer texts; what was written is read back: plain. -/
namespace Go.Proofs.Ytfkecldlhngjhaa.Ev
set_option linter.all false
open Go

theorem valB_ext {s y : ByteArray} : ∀ {k : Nat}, k ≤ s.size → valB (s ++ y) k = valB s k
  | 0, _ => rfl
  | k + 1, h => by rw [valB, valB, valB_ext (by omega), cat_left (by omega)]
theorem extract_ext {s y : ByteArray} {a k : Nat} (h : k ≤ s.size) : (s ++ y).extract a k = s.extract a k := by
  refine ByteArray.ext ?_
  rw [ByteArray.data_extract, ByteArray.data_extract, ByteArray.data_append, Array.extract_append]
  have : s.size = s.data.size := rfl
  have h2 : k - s.data.size = 0 := by omega
  rw [h2]
  simp
theorem readV.ext {s y : ByteArray} {n k : Nat} (h : readV s n k) : readV (s ++ y) n k := by
  obtain ⟨h1, h2, h3, h4, h5⟩ := h
  refine ⟨h1, h2, by rw [ByteArray.size_append]; omega, by rw [valB_ext h3]; exact h4, ?_⟩
  unfold isV
  rw [valB_ext h3, extract_ext h3]
  exact h5
end Go.Proofs.Ytfkecldlhngjhaa.Ev

/- An element read and written; the front of a row of one's own; shared. -/
namespace Go.Proofs.Ytfkecldlhngjhaa.Ev
set_option linter.all false
open Go

theorem Sl.both {α : Type} {R : α → List Value → Prop} {esz : Nat} {H : Hp} {v : Value} {l : List α} (h : Sl R esz H v l) {i : Nat} (hi : i < l.length) : ∃ id p o, H[id]? = some o ∧ p + esz ≤ o.length ∧ idsOf v = [id] ∧ R l[i] ((o.drop p).take esz) ∧
    (∀ (s : St) (x y : X), exv s.ρ x = some v → exv s.ρ y = some (.int .i64 i) → iadrK s esz x y = some (.val (.pointer (some ⟨id, p, some o.length⟩)), s)) ∧
    ∀ a cs, cs.length = esz → R a cs → Sl R esz (H.set id (spl o p cs)) v (l.set i a) := by
  obtain ⟨id, p, o, h1, h2, h3, h4, h5⟩ := h.store hi
  obtain ⟨id', p', o', g1, g2, g3, g4⟩ := h.elem (List.getElem?_eq_getElem hi)
  have e1 := h4 { ρ := fun t => if t = 0 then .val v else .val (.int .i64 i), gn := 0, H := [] } (.t 0) (.t 1) rfl rfl
  have e2 := g4 { ρ := fun t => if t = 0 then .val v else .val (.int .i64 i), gn := 0, H := [] } (.t 0) (.t 1) rfl rfl
  rw [e1] at e2
  simp only [Option.some.injEq, Prod.mk.injEq, FV.val.injEq, Value.pointer.injEq, Addr.mk.injEq, and_true] at e2
  obtain ⟨rfl, rfl, _⟩ := e2
  rw [h1] at g1
  cases g1
  exact ⟨id, p, o, h1, h2, h3, g2, h4, h5⟩
end Go.Proofs.Ytfkecldlhngjhaa.Ev

/- The machine's rules under one name. -/
namespace Go.Proofs.Ytfkecldlhngjhaa.Ev
set_option linter.all false
open Go
attribute [go_sem] go_nil go_blk go_skip go_ret go_exit go_seq go_block go_reg go_r0 go_r go_d0 go_d go_e0 go_e box2 go_w0 go_w box3 Option.isSome_some Nat.le_refl go_cond go_o go_g aft_some cnd_bool grd_bool grd_tup brT_true brT_false brT_not thr_exit thr_c thr_nil stp stepK movK mv1 ex exv exvs upd_some upd_none ini St.val binK binV ofV pickK unK unV beqK beq_true beq_false if_true if_false List.getElem?_cons_zero List.getElem?_cons_succ loadK adr deref Ad.fv Ad.live fadrK List.length_cons List.length_nil List.drop_zero List.drop_succ_cons List.take_succ_cons List.take_zero Nat.zero_add Nat.add_zero aeqK agEq scEq boxVK newVK exc vc_agg vc_int vc_bool vc_str vc_ptr vc_sl vc_fn boxOf adInf List.reverse_cons List.reverse_nil List.nil_append List.cons_append extK Bool.and_true Bool.true_and Bool.not_true Bool.not_false resT resVs resV true_and and_true storeK spl_nil spl_z spl_1 spl_2 spl_3 spl_4 spl_5 spl_6 spl_7 spl_8 scal_int scal_bool scal_str scal_nil implies_true Bool.and_self Post_ret Post_normal PostS_ret PostS_normal retT_true retT_false flat_bool flat_int flat_str List.take_length decide_true decide_false Option.some.injEq Value.bool.injEq Value.int.injEq Bool.false_and Bool.and_false not_false_eq_true not_true_eq_false toIntK List.length_set Bool.not_eq_true Bool.not_eq_false List.all_cons List.all_nil exps fillL buildK strK nilcK fnK callVT List.size_toArray List.append_nil List.singleton_append boxOK newOK List.isEmpty_nil List.isEmpty_cons mkVK mkOK mkCells zeros_0 zeros_1 zeros_2 zeros_3 zeros_4 List.map_cons List.map_nil
end Go.Proofs.Ytfkecldlhngjhaa.Ev

/- The seat's program on the small machine: which slots hold boxes of their own, which functions leave memory as it is. -/
namespace Go.Proofs.Ytfkecldlhngjhaa.Ev
set_option linter.all false
open Go
def hvT : List (Nat × List Nat) := [(4, [2, 7]), (6, [3, 4, 9, 11, 86]), (7, [2, 3, 7]), (11, [3, 4, 8, 10, 11, 16]), (12, [3, 4, 8, 10, 11, 16]), (13, [3, 4, 6, 8, 10, 11, 13, 15]), (19, [2]), (20, [2]), (21, [1, 2, 3]), (22, [2]), (23, [2, 3]), (28, [3, 4, 6]), (29, [3, 4, 6, 9, 63, 70]), (30, [2, 3]), (31, [1, 2, 3]), (32, [2, 3]), (39, [56]), (40, [47]), (41, [3, 4, 6]), (42, [2]), (43, [2]), (44, [3, 4, 6, 9, 69, 75]), (45, [2, 3, 6, 7]), (47, [2, 3, 6, 7]), (57, [1, 2]), (58, [1]), (62, [1, 2]), (64, [2, 3]), (65, [3, 4, 5, 8, 36, 46]), (68, [16, 24])]
def hv (f t : Nat) : Bool := match hvT.find? (·.1 == f) with | some p => p.2.contains t | none => false
def trT : List Nat := [15, 17, 24, 25, 26, 33, 34, 46, 51, 52, 53, 54, 56, 59, 60, 66, 67, 69, 70]
noncomputable def EE : Env := { fns := fnsOf Go.Proofs.Try.prog hv, prim := fun _ => none, pw := fun f => [].contains f, tr := fun f => trT.contains f }
end Go.Proofs.Ytfkecldlhngjhaa.Ev

/- Code of the program's functions, as the small machine has it: written by mkcode.py. -/
namespace Go.Proofs.Ytfkecldlhngjhaa.Ev
set_option linter.all false
open Go
def c14 : CF := ⟨260, (.seq (.reg false [⟨(some 2), .none, (.mov (.c (.bool false))), 0, []⟩]) (.seq (.seq (.reg false [⟨(some 21), .none, (.mov (.t 0)), 0, []⟩, ⟨(some 22), .none, (.call 26 [(.t 21)]), 1, []⟩]) (.cond (.t 22) (.seq (.reg false [⟨(some 2), .none, (.mov (.c (.bool true))), 0, []⟩]) .ret) .skip)) (.seq (.reg false [⟨(some 24), .none, (.mov (.t 0)), 0, []⟩, ⟨(some 25), .none, (.call 48 [(.t 24)]), 1, []⟩, ⟨(some 23), .none, (.mov (.t 25)), 2, []⟩, ⟨(some 26), .none, (.ext (.t 23) 0), 3, []⟩, ⟨(some 27), .none, (.ext (.t 23) 1), 4, []⟩, ⟨(some 3), .none, (.mov (.t 26)), 5, []⟩, ⟨(some 4), .none, (.mov (.t 27)), 6, []⟩]) (.seq (.reg false [⟨(some 28), .none, (.mov (.t 3)), 0, []⟩, ⟨(some 29), .none, (.mov (.t 4)), 1, []⟩, ⟨(some 30), .none, (.call 40 [(.t 28), (.t 29)]), 2, []⟩, ⟨(some 5), .none, (.mov (.t 30)), 3, []⟩]) (.seq (.seq (.reg false [⟨(some 31), .none, (.mov (.t 5)), 0, []⟩, ⟨(some 32), .none, (.mov (.t 3)), 1, []⟩, ⟨(some 33), .none, (.mov (.t 4)), 2, []⟩, ⟨(some 34), .none, (.call 39 [(.t 32), (.t 33)]), 3, []⟩, ⟨(some 35), .none, (.call 46 [(.t 31), (.t 34)]), 4, []⟩, ⟨(some 36), .none, (.un .not (.t 35)), 5, []⟩]) (.cond (.t 36) (.seq (.reg false [⟨(some 2), .none, (.mov (.c (.bool false))), 0, []⟩]) .ret) .skip)) (.seq (.seq (.reg false [⟨(some 6), .none, (.mov (.c (.int .i64 0))), 0, []⟩]) (.block 0 (.loop (.seq (.seq (.reg false [⟨(some 37), .none, (.mov (.t 6)), 0, []⟩, ⟨(some 38), .none, (.mov (.t 5)), 1, []⟩, ⟨(some 39), .none, (.lenS (.t 38)), 2, []⟩, ⟨(some 40), .none, (.bin .lss (.t 37) (.t 39)), 3, []⟩]) (.cond (.t 40) .skip (.exit 0))) (.seq (.block 1 (.seq (.reg false [⟨(some 7), .none, (.mov (.c (.int .i64 0))), 0, []⟩]) (.block 2 (.loop (.seq (.seq (.reg false [⟨(some 43), .none, (.mov (.t 7)), 0, []⟩, ⟨(some 44), .none, (.mov (.t 6)), 1, []⟩, ⟨(some 45), .none, (.bin .lss (.t 43) (.t 44)), 2, []⟩]) (.cond (.t 45) .skip (.exit 2))) (.seq (.block 3 (.seq (.reg true [⟨(some 48), .none, (.mov (.t 3)), 0, []⟩, ⟨(some 49), .none, (.mov (.t 5)), 1, []⟩, ⟨(some 50), .none, (.mov (.t 6)), 2, []⟩, ⟨(some 51), .none, (.iadr 1 (.t 49) (.t 50)), 3, [1, 2]⟩, ⟨(some 52), .none, (.load 1 false (.t 51)), 4, [3, 1, 2]⟩, ⟨(some 53), .none, (.iadr 1 (.t 48) (.t 52)), 5, [0, 4, 3, 1, 2]⟩, ⟨(some 54), .none, (.load 1 false (.t 53)), 6, [5, 0, 4, 3, 1, 2]⟩, ⟨(some 55), .none, (.mov (.t 3)), 7, []⟩, ⟨(some 56), .none, (.mov (.t 5)), 8, []⟩, ⟨(some 57), .none, (.mov (.t 7)), 9, []⟩, ⟨(some 58), .none, (.iadr 1 (.t 56) (.t 57)), 10, [8, 9]⟩, ⟨(some 59), .none, (.load 1 false (.t 58)), 11, [10, 8, 9]⟩, ⟨(some 60), .none, (.iadr 1 (.t 55) (.t 59)), 12, [7, 11, 10, 8, 9]⟩, ⟨(some 61), .none, (.load 1 false (.t 60)), 13, [12, 7, 11, 10, 8, 9]⟩, ⟨(some 62), .none, (.bin .sub (.t 54) (.t 61)), 14, [6, 5, 0, 4, 3, 1, 2, 13, 12, 7, 11, 10, 8, 9]⟩, ⟨(some 8), .none, (.mov (.t 62)), 15, [14, 6, 5, 0, 4, 3, 1, 2, 13, 12, 7, 11, 10, 8, 9]⟩]) (.seq (.reg true [⟨(some 63), .none, (.mov (.t 5)), 0, []⟩, ⟨(some 64), .none, (.mov (.t 7)), 1, []⟩, ⟨(some 65), .none, (.iadr 1 (.t 63) (.t 64)), 2, [0, 1]⟩, ⟨(some 66), .none, (.load 1 false (.t 65)), 3, [2, 0, 1]⟩, ⟨(some 67), .none, (.mov (.t 5)), 4, []⟩, ⟨(some 68), .none, (.mov (.t 6)), 5, []⟩, ⟨(some 69), .none, (.iadr 1 (.t 67) (.t 68)), 6, [4, 5]⟩, ⟨(some 70), .none, (.load 1 false (.t 69)), 7, [6, 4, 5]⟩, ⟨(some 71), .none, (.bin .geq (.t 66) (.t 70)), 8, [3, 2, 0, 1, 7, 6, 4, 5]⟩, ⟨(some 72), .none, (.mov (.t 71)), 9, [8, 3, 2, 0, 1, 7, 6, 4, 5]⟩, ⟨(some 73), (.some (72, false)), (.mov (.t 8)), 10, [9, 8, 3, 2, 0, 1, 7, 6, 4, 5]⟩, ⟨(some 74), (.some (72, false)), (.mov (.t 4)), 11, [9, 8, 3, 2, 0, 1, 7, 6, 4, 5]⟩, ⟨(some 75), (.some (72, false)), (.bin .gtr (.t 73) (.t 74)), 12, [10, 9, 8, 3, 2, 0, 1, 7, 6, 4, 5, 11]⟩, ⟨(some 76), .none, (.pick (.t 72) (.c (.bool true)) (.t 75)), 13, [9, 8, 3, 2, 0, 1, 7, 6, 4, 5, 12, 10, 11]⟩, ⟨(some 77), .none, (.mov (.t 76)), 14, [13, 9, 8, 3, 2, 0, 1, 7, 6, 4, 5, 12, 10, 11]⟩, ⟨(some 78), (.some (77, false)), (.mov (.t 8)), 15, [14, 13, 9, 8, 3, 2, 0, 1, 7, 6, 4, 5, 12, 10, 11]⟩, ⟨(some 79), (.some (77, false)), (.un .neg (.t 78)), 16, [15, 14, 13, 9, 8, 3, 2, 0, 1, 7, 6, 4, 5, 12, 10, 11]⟩, ⟨(some 80), (.some (77, false)), (.mov (.t 4)), 17, [14, 13, 9, 8, 3, 2, 0, 1, 7, 6, 4, 5, 12, 10, 11]⟩, ⟨(some 81), (.some (77, false)), (.bin .gtr (.t 79) (.t 80)), 18, [16, 15, 14, 13, 9, 8, 3, 2, 0, 1, 7, 6, 4, 5, 12, 10, 11, 17]⟩, ⟨(some 82), .none, (.pick (.t 77) (.c (.bool true)) (.t 81)), 19, [14, 13, 9, 8, 3, 2, 0, 1, 7, 6, 4, 5, 12, 10, 11, 18, 16, 15, 17]⟩]) (.cond (.t 82) (.seq (.reg false [⟨(some 2), .none, (.mov (.c (.bool false))), 0, []⟩]) .ret) .skip)))) (.reg false [⟨(some 46), .none, (.mov (.t 7)), 0, []⟩, ⟨(some 47), .none, (.bin .add (.t 46) (.c (.int .i64 1))), 1, []⟩, ⟨(some 7), .none, (.mov (.t 47)), 2, []⟩]))))))) (.reg false [⟨(some 41), .none, (.mov (.t 6)), 0, []⟩, ⟨(some 42), .none, (.bin .add (.t 41) (.c (.int .i64 1))), 1, []⟩, ⟨(some 6), .none, (.mov (.t 42)), 2, []⟩])))))) (.seq (.seq (.reg false [⟨(some 9), .none, (.mov (.c (.int .i64 0))), 0, []⟩]) (.block 4 (.loop (.seq (.seq (.reg false [⟨(some 83), .none, (.mov (.t 9)), 0, []⟩, ⟨(some 84), .none, (.mov (.t 3)), 1, []⟩, ⟨(some 85), .none, (.lenS (.t 84)), 2, []⟩, ⟨(some 86), .none, (.bin .lss (.t 83) (.t 85)), 3, []⟩, ⟨(some 87), .none, (.mov (.t 86)), 4, []⟩, ⟨(some 88), (.some (87, true)), (.mov (.t 3)), 5, []⟩, ⟨(some 89), (.some (87, true)), (.call 15 [(.t 88)]), 6, []⟩, ⟨(some 90), .none, (.pick (.t 87) (.t 89) (.c (.bool false))), 7, []⟩, ⟨(some 91), .none, (.mov (.t 90)), 8, []⟩, ⟨(some 92), (.some (91, true)), (.mov (.t 4)), 9, []⟩, ⟨(some 93), (.some (91, true)), (.bin .geq (.t 92) (.c (.int .i64 0))), 10, []⟩, ⟨(some 94), .none, (.pick (.t 91) (.t 93) (.c (.bool false))), 11, []⟩]) (.cond (.t 94) .skip (.exit 4))) (.seq (.block 5 (.seq (.reg false [⟨(some 10), .none, (.mov (.c (.int .i64 0))), 0, []⟩]) (.seq (.seq (.reg false [⟨(some 11), .none, (.mov (.c (.int .i64 0))), 0, []⟩]) (.block 6 (.loop (.seq (.seq (.reg false [⟨(some 97), .none, (.mov (.t 11)), 0, []⟩, ⟨(some 98), .none, (.mov (.t 3)), 1, []⟩, ⟨(some 99), .none, (.lenS (.t 98)), 2, []⟩, ⟨(some 100), .none, (.bin .lss (.t 97) (.t 99)), 3, []⟩]) (.cond (.t 100) .skip (.exit 6))) (.seq (.block 7 (.seq (.reg true [⟨(some 103), .none, (.mov (.t 3)), 0, []⟩, ⟨(some 104), .none, (.mov (.t 11)), 1, []⟩, ⟨(some 105), .none, (.iadr 1 (.t 103) (.t 104)), 2, [0, 1]⟩, ⟨(some 106), .none, (.load 1 false (.t 105)), 3, [2, 0, 1]⟩, ⟨(some 107), .none, (.mov (.t 3)), 4, []⟩, ⟨(some 108), .none, (.mov (.t 9)), 5, []⟩, ⟨(some 109), .none, (.iadr 1 (.t 107) (.t 108)), 6, [4, 5]⟩, ⟨(some 110), .none, (.load 1 false (.t 109)), 7, [6, 4, 5]⟩, ⟨(some 111), .none, (.bin .geq (.t 106) (.t 110)), 8, [3, 2, 0, 1, 7, 6, 4, 5]⟩, ⟨(some 112), .none, (.mov (.t 111)), 9, [8, 3, 2, 0, 1, 7, 6, 4, 5]⟩, ⟨(some 113), (.some (112, true)), (.mov (.t 3)), 10, [9, 8, 3, 2, 0, 1, 7, 6, 4, 5]⟩, ⟨(some 114), (.some (112, true)), (.mov (.t 11)), 11, [9, 8, 3, 2, 0, 1, 7, 6, 4, 5]⟩, ⟨(some 115), (.some (112, true)), (.iadr 1 (.t 113) (.t 114)), 12, [10, 9, 8, 3, 2, 0, 1, 7, 6, 4, 5, 11]⟩, ⟨(some 116), (.some (112, true)), (.load 1 false (.t 115)), 13, [12, 10, 9, 8, 3, 2, 0, 1, 7, 6, 4, 5, 11]⟩, ⟨(some 117), (.some (112, true)), (.mov (.t 3)), 14, [9, 8, 3, 2, 0, 1, 7, 6, 4, 5]⟩, ⟨(some 118), (.some (112, true)), (.mov (.t 9)), 15, [9, 8, 3, 2, 0, 1, 7, 6, 4, 5]⟩, ⟨(some 119), (.some (112, true)), (.iadr 1 (.t 117) (.t 118)), 16, [14, 9, 8, 3, 2, 0, 1, 7, 6, 4, 5, 15]⟩, ⟨(some 120), (.some (112, true)), (.load 1 false (.t 119)), 17, [16, 14, 9, 8, 3, 2, 0, 1, 7, 6, 4, 5, 15]⟩, ⟨(some 121), (.some (112, true)), (.bin .sub (.t 116) (.t 120)), 18, [13, 12, 10, 9, 8, 3, 2, 0, 1, 7, 6, 4, 5, 11, 17, 16, 14, 15]⟩, ⟨(some 122), (.some (112, true)), (.mov (.t 4)), 19, [9, 8, 3, 2, 0, 1, 7, 6, 4, 5]⟩, ⟨(some 123), (.some (112, true)), (.bin .leq (.t 121) (.t 122)), 20, [18, 13, 12, 10, 9, 8, 3, 2, 0, 1, 7, 6, 4, 5, 11, 17, 16, 14, 15, 19]⟩, ⟨(some 124), .none, (.pick (.t 112) (.t 123) (.c (.bool false))), 21, [9, 8, 3, 2, 0, 1, 7, 6, 4, 5, 20, 18, 13, 12, 10, 11, 17, 16, 14, 15, 19]⟩]) (.cond (.t 124) (.reg false [⟨(some 125), .none, (.mov (.t 10)), 0, []⟩, ⟨(some 126), .none, (.bin .add (.t 125) (.c (.int .i64 1))), 1, []⟩, ⟨(some 10), .none, (.mov (.t 126)), 2, []⟩]) .skip))) (.reg false [⟨(some 101), .none, (.mov (.t 11)), 0, []⟩, ⟨(some 102), .none, (.bin .add (.t 101) (.c (.int .i64 1))), 1, []⟩, ⟨(some 11), .none, (.mov (.t 102)), 2, []⟩])))))) (.seq (.reg false [⟨(some 127), .none, (.mov (.t 10)), 0, []⟩, ⟨(some 128), .none, (.mov (.t 5)), 1, []⟩, ⟨(some 129), .none, (.lenS (.t 128)), 2, []⟩, ⟨(some 130), .none, (.bin .gtr (.t 127) (.t 129)), 3, []⟩]) (.cond (.t 130) (.seq (.reg false [⟨(some 2), .none, (.mov (.c (.bool false))), 0, []⟩]) .ret) .skip))))) (.reg false [⟨(some 95), .none, (.mov (.t 9)), 0, []⟩, ⟨(some 96), .none, (.bin .add (.t 95) (.c (.int .i64 1))), 1, []⟩, ⟨(some 9), .none, (.mov (.t 96)), 2, []⟩])))))) (.seq (.reg false [⟨(some 132), .none, (.mov (.t 0)), 0, []⟩, ⟨(some 133), .none, (.call 49 [(.t 132)]), 1, []⟩, ⟨(some 131), .none, (.mov (.t 133)), 2, []⟩, ⟨(some 134), .none, (.ext (.t 131) 0), 3, []⟩, ⟨(some 135), .none, (.ext (.t 131) 1), 4, []⟩, ⟨(some 136), .none, (.ext (.t 131) 2), 5, []⟩, ⟨(some 12), .none, (.mov (.t 134)), 6, []⟩, ⟨(some 13), .none, (.mov (.t 135)), 7, []⟩, ⟨(some 14), .none, (.mov (.t 136)), 8, []⟩]) (.seq (.reg false [⟨(some 137), .none, (.mov (.t 12)), 0, []⟩, ⟨(some 138), .none, (.mov (.t 13)), 1, []⟩, ⟨(some 139), .none, (.mov (.t 14)), 2, []⟩, ⟨(some 140), .none, (.call 36 [(.t 137), (.t 138), (.t 139)]), 3, []⟩, ⟨(some 15), .none, (.mov (.t 140)), 4, []⟩]) (.seq (.seq (.reg false [⟨(some 141), .none, (.mov (.t 15)), 0, []⟩, ⟨(some 142), .none, (.mov (.t 12)), 1, []⟩, ⟨(some 143), .none, (.mov (.t 13)), 2, []⟩, ⟨(some 144), .none, (.mov (.t 14)), 3, []⟩, ⟨(some 145), .none, (.call 35 [(.t 142), (.t 143), (.t 144)]), 4, []⟩, ⟨(some 146), .none, (.call 46 [(.t 141), (.t 145)]), 5, []⟩, ⟨(some 147), .none, (.un .not (.t 146)), 6, []⟩, ⟨(some 148), .none, (.mov (.t 147)), 7, []⟩, ⟨(some 149), (.some (148, false)), (.mov (.t 12)), 8, []⟩, ⟨(some 150), (.some (148, false)), (.call 34 [(.t 149)]), 9, []⟩, ⟨(some 151), (.some (148, false)), (.mov (.t 12)), 10, []⟩, ⟨(some 152), (.some (148, false)), (.call 33 [(.t 151)]), 11, []⟩, ⟨(some 153), (.some (148, false)), (.bin .neq (.t 150) (.t 152)), 12, []⟩, ⟨(some 154), .none, (.pick (.t 148) (.c (.bool true)) (.t 153)), 13, []⟩]) (.cond (.t 154) (.seq (.reg false [⟨(some 2), .none, (.mov (.c (.bool false))), 0, []⟩]) .ret) .skip)) (.seq (.seq (.reg false [⟨(some 155), .none, (.mov (.t 12)), 0, []⟩, ⟨(some 156), .none, (.call 15 [(.t 155)]), 1, []⟩, ⟨(some 157), .none, (.un .not (.t 156)), 2, []⟩]) (.cond (.t 157) (.seq (.reg false [⟨(some 158), .none, (.mov (.t 15)), 0, []⟩, ⟨(some 159), .none, (.lenS (.t 158)), 1, []⟩, ⟨(some 160), .none, (.bin .eql (.t 159) (.c (.int .i64 0))), 2, []⟩, ⟨(some 2), .none, (.mov (.t 160)), 3, []⟩]) .ret) .skip)) (.seq (.seq (.reg false [⟨(some 16), .none, (.mov (.c (.int .i64 0))), 0, []⟩]) (.block 8 (.loop (.seq (.seq (.reg false [⟨(some 161), .none, (.mov (.t 16)), 0, []⟩, ⟨(some 162), .none, (.mov (.t 12)), 1, []⟩, ⟨(some 163), .none, (.lenS (.t 162)), 2, []⟩, ⟨(some 164), .none, (.bin .lss (.t 161) (.t 163)), 3, []⟩]) (.cond (.t 164) .skip (.exit 8))) (.seq (.block 9 (.seq (.reg true [⟨(some 167), .none, (.mov (.t 12)), 0, []⟩, ⟨(some 168), .none, (.mov (.t 16)), 1, []⟩, ⟨(some 169), .none, (.iadr 1 (.t 167) (.t 168)), 2, [0, 1]⟩, ⟨(some 170), .none, (.load 1 false (.t 169)), 3, [2, 0, 1]⟩, ⟨(some 171), .none, (.bin .gtr (.t 170) (.c (.int .i64 0))), 4, [3, 2, 0, 1]⟩, ⟨(some 172), .none, (.mov (.t 171)), 5, [4, 3, 2, 0, 1]⟩, ⟨(some 173), (.some (172, true)), (.mov (.t 15)), 6, [5, 4, 3, 2, 0, 1]⟩, ⟨(some 174), (.some (172, true)), (.mov (.t 16)), 7, [5, 4, 3, 2, 0, 1]⟩, ⟨(some 175), (.some (172, true)), (.iadr 1 (.t 173) (.t 174)), 8, [6, 5, 4, 3, 2, 0, 1, 7]⟩, ⟨(some 176), (.some (172, true)), (.load 1 false (.t 175)), 9, [8, 6, 5, 4, 3, 2, 0, 1, 7]⟩, ⟨(some 177), (.some (172, true)), (.bin .lss (.t 176) (.c (.int .i64 0))), 10, [9, 8, 6, 5, 4, 3, 2, 0, 1, 7]⟩, ⟨(some 178), (.some (172, true)), (.mov (.t 177)), 11, [10, 9, 8, 6, 5, 4, 3, 2, 0, 1, 7]⟩, ⟨(some 179), (.some (178, false)), (.mov (.t 15)), 12, [11, 10, 9, 8, 6, 5, 4, 3, 2, 0, 1, 7]⟩, ⟨(some 180), (.some (178, false)), (.mov (.t 16)), 13, [11, 10, 9, 8, 6, 5, 4, 3, 2, 0, 1, 7]⟩, ⟨(some 181), (.some (178, false)), (.iadr 1 (.t 179) (.t 180)), 14, [12, 11, 10, 9, 8, 6, 5, 4, 3, 2, 0, 1, 7, 13]⟩, ⟨(some 182), (.some (178, false)), (.load 1 false (.t 181)), 15, [14, 12, 11, 10, 9, 8, 6, 5, 4, 3, 2, 0, 1, 7, 13]⟩, ⟨(some 183), (.some (178, false)), (.mov (.t 12)), 16, [11, 10, 9, 8, 6, 5, 4, 3, 2, 0, 1, 7]⟩, ⟨(some 184), (.some (178, false)), (.mov (.t 16)), 17, [11, 10, 9, 8, 6, 5, 4, 3, 2, 0, 1, 7]⟩, ⟨(some 185), (.some (178, false)), (.iadr 1 (.t 183) (.t 184)), 18, [16, 11, 10, 9, 8, 6, 5, 4, 3, 2, 0, 1, 7, 17]⟩, ⟨(some 186), (.some (178, false)), (.load 1 false (.t 185)), 19, [18, 16, 11, 10, 9, 8, 6, 5, 4, 3, 2, 0, 1, 7, 17]⟩, ⟨(some 187), (.some (178, false)), (.bin .gtr (.t 182) (.t 186)), 20, [15, 14, 12, 11, 10, 9, 8, 6, 5, 4, 3, 2, 0, 1, 7, 13, 19, 18, 16, 17]⟩, ⟨(some 188), (.some (172, true)), (.pick (.t 178) (.c (.bool true)) (.t 187)), 21, [11, 10, 9, 8, 6, 5, 4, 3, 2, 0, 1, 7, 20, 15, 14, 12, 13, 19, 18, 16, 17]⟩, ⟨(some 189), .none, (.pick (.t 172) (.t 188) (.c (.bool false))), 22, [5, 4, 3, 2, 0, 1, 21, 11, 10, 9, 8, 6, 7, 20, 15, 14, 12, 13, 19, 18, 16, 17]⟩, ⟨(some 190), .none, (.mov (.t 189)), 23, [22, 5, 4, 3, 2, 0, 1, 21, 11, 10, 9, 8, 6, 7, 20, 15, 14, 12, 13, 19, 18, 16, 17]⟩, ⟨(some 191), (.some (190, false)), (.mov (.t 12)), 24, [23, 22, 5, 4, 3, 2, 0, 1, 21, 11, 10, 9, 8, 6, 7, 20, 15, 14, 12, 13, 19, 18, 16, 17]⟩, ⟨(some 192), (.some (190, false)), (.mov (.t 16)), 25, [23, 22, 5, 4, 3, 2, 0, 1, 21, 11, 10, 9, 8, 6, 7, 20, 15, 14, 12, 13, 19, 18, 16, 17]⟩, ⟨(some 193), (.some (190, false)), (.iadr 1 (.t 191) (.t 192)), 26, [24, 23, 22, 5, 4, 3, 2, 0, 1, 21, 11, 10, 9, 8, 6, 7, 20, 15, 14, 12, 13, 19, 18, 16, 17, 25]⟩, ⟨(some 194), (.some (190, false)), (.load 1 false (.t 193)), 27, [26, 24, 23, 22, 5, 4, 3, 2, 0, 1, 21, 11, 10, 9, 8, 6, 7, 20, 15, 14, 12, 13, 19, 18, 16, 17, 25]⟩, ⟨(some 195), (.some (190, false)), (.bin .lss (.t 194) (.c (.int .i64 0))), 28, [27, 26, 24, 23, 22, 5, 4, 3, 2, 0, 1, 21, 11, 10, 9, 8, 6, 7, 20, 15, 14, 12, 13, 19, 18, 16, 17, 25]⟩, ⟨(some 196), (.some (190, false)), (.mov (.t 195)), 29, [28, 27, 26, 24, 23, 22, 5, 4, 3, 2, 0, 1, 21, 11, 10, 9, 8, 6, 7, 20, 15, 14, 12, 13, 19, 18, 16, 17, 25]⟩, ⟨(some 197), (.some (196, true)), (.mov (.t 15)), 30, [29, 28, 27, 26, 24, 23, 22, 5, 4, 3, 2, 0, 1, 21, 11, 10, 9, 8, 6, 7, 20, 15, 14, 12, 13, 19, 18, 16, 17, 25]⟩, ⟨(some 198), (.some (196, true)), (.mov (.t 16)), 31, [29, 28, 27, 26, 24, 23, 22, 5, 4, 3, 2, 0, 1, 21, 11, 10, 9, 8, 6, 7, 20, 15, 14, 12, 13, 19, 18, 16, 17, 25]⟩, ⟨(some 199), (.some (196, true)), (.iadr 1 (.t 197) (.t 198)), 32, [30, 29, 28, 27, 26, 24, 23, 22, 5, 4, 3, 2, 0, 1, 21, 11, 10, 9, 8, 6, 7, 20, 15, 14, 12, 13, 19, 18, 16, 17, 25, 31]⟩, ⟨(some 200), (.some (196, true)), (.load 1 false (.t 199)), 33, [32, 30, 29, 28, 27, 26, 24, 23, 22, 5, 4, 3, 2, 0, 1, 21, 11, 10, 9, 8, 6, 7, 20, 15, 14, 12, 13, 19, 18, 16, 17, 25, 31]⟩, ⟨(some 201), (.some (196, true)), (.bin .gtr (.t 200) (.c (.int .i64 0))), 34, [33, 32, 30, 29, 28, 27, 26, 24, 23, 22, 5, 4, 3, 2, 0, 1, 21, 11, 10, 9, 8, 6, 7, 20, 15, 14, 12, 13, 19, 18, 16, 17, 25, 31]⟩, ⟨(some 202), (.some (196, true)), (.mov (.t 201)), 35, [34, 33, 32, 30, 29, 28, 27, 26, 24, 23, 22, 5, 4, 3, 2, 0, 1, 21, 11, 10, 9, 8, 6, 7, 20, 15, 14, 12, 13, 19, 18, 16, 17, 25, 31]⟩, ⟨(some 203), (.some (202, false)), (.mov (.t 15)), 36, [35, 34, 33, 32, 30, 29, 28, 27, 26, 24, 23, 22, 5, 4, 3, 2, 0, 1, 21, 11, 10, 9, 8, 6, 7, 20, 15, 14, 12, 13, 19, 18, 16, 17, 25, 31]⟩, ⟨(some 204), (.some (202, false)), (.mov (.t 16)), 37, [35, 34, 33, 32, 30, 29, 28, 27, 26, 24, 23, 22, 5, 4, 3, 2, 0, 1, 21, 11, 10, 9, 8, 6, 7, 20, 15, 14, 12, 13, 19, 18, 16, 17, 25, 31]⟩, ⟨(some 205), (.some (202, false)), (.iadr 1 (.t 203) (.t 204)), 38, [36, 35, 34, 33, 32, 30, 29, 28, 27, 26, 24, 23, 22, 5, 4, 3, 2, 0, 1, 21, 11, 10, 9, 8, 6, 7, 20, 15, 14, 12, 13, 19, 18, 16, 17, 25, 31, 37]⟩, ⟨(some 206), (.some (202, false)), (.load 1 false (.t 205)), 39, [38, 36, 35, 34, 33, 32, 30, 29, 28, 27, 26, 24, 23, 22, 5, 4, 3, 2, 0, 1, 21, 11, 10, 9, 8, 6, 7, 20, 15, 14, 12, 13, 19, 18, 16, 17, 25, 31, 37]⟩, ⟨(some 207), (.some (202, false)), (.mov (.t 12)), 40, [35, 34, 33, 32, 30, 29, 28, 27, 26, 24, 23, 22, 5, 4, 3, 2, 0, 1, 21, 11, 10, 9, 8, 6, 7, 20, 15, 14, 12, 13, 19, 18, 16, 17, 25, 31]⟩, ⟨(some 208), (.some (202, false)), (.mov (.t 16)), 41, [35, 34, 33, 32, 30, 29, 28, 27, 26, 24, 23, 22, 5, 4, 3, 2, 0, 1, 21, 11, 10, 9, 8, 6, 7, 20, 15, 14, 12, 13, 19, 18, 16, 17, 25, 31]⟩, ⟨(some 209), (.some (202, false)), (.iadr 1 (.t 207) (.t 208)), 42, [40, 35, 34, 33, 32, 30, 29, 28, 27, 26, 24, 23, 22, 5, 4, 3, 2, 0, 1, 21, 11, 10, 9, 8, 6, 7, 20, 15, 14, 12, 13, 19, 18, 16, 17, 25, 31, 41]⟩, ⟨(some 210), (.some (202, false)), (.load 1 false (.t 209)), 43, [42, 40, 35, 34, 33, 32, 30, 29, 28, 27, 26, 24, 23, 22, 5, 4, 3, 2, 0, 1, 21, 11, 10, 9, 8, 6, 7, 20, 15, 14, 12, 13, 19, 18, 16, 17, 25, 31, 41]⟩, ⟨(some 211), (.some (202, false)), (.bin .lss (.t 206) (.t 210)), 44, [39, 38, 36, 35, 34, 33, 32, 30, 29, 28, 27, 26, 24, 23, 22, 5, 4, 3, 2, 0, 1, 21, 11, 10, 9, 8, 6, 7, 20, 15, 14, 12, 13, 19, 18, 16, 17, 25, 31, 37, 43, 42, 40, 41]⟩, ⟨(some 212), (.some (196, true)), (.pick (.t 202) (.c (.bool true)) (.t 211)), 45, [35, 34, 33, 32, 30, 29, 28, 27, 26, 24, 23, 22, 5, 4, 3, 2, 0, 1, 21, 11, 10, 9, 8, 6, 7, 20, 15, 14, 12, 13, 19, 18, 16, 17, 25, 31, 44, 39, 38, 36, 37, 43, 42, 40, 41]⟩, ⟨(some 213), (.some (190, false)), (.pick (.t 196) (.t 212) (.c (.bool false))), 46, [29, 28, 27, 26, 24, 23, 22, 5, 4, 3, 2, 0, 1, 21, 11, 10, 9, 8, 6, 7, 20, 15, 14, 12, 13, 19, 18, 16, 17, 25, 45, 35, 34, 33, 32, 30, 31, 44, 39, 38, 36, 37, 43, 42, 40, 41]⟩, ⟨(some 214), .none, (.pick (.t 190) (.c (.bool true)) (.t 213)), 47, [23, 22, 5, 4, 3, 2, 0, 1, 21, 11, 10, 9, 8, 6, 7, 20, 15, 14, 12, 13, 19, 18, 16, 17, 46, 29, 28, 27, 26, 24, 25, 45, 35, 34, 33, 32, 30, 31, 44, 39, 38, 36, 37, 43, 42, 40, 41]⟩, ⟨(some 215), .none, (.mov (.t 214)), 48, [47, 23, 22, 5, 4, 3, 2, 0, 1, 21, 11, 10, 9, 8, 6, 7, 20, 15, 14, 12, 13, 19, 18, 16, 17, 46, 29, 28, 27, 26, 24, 25, 45, 35, 34, 33, 32, 30, 31, 44, 39, 38, 36, 37, 43, 42, 40, 41]⟩, ⟨(some 216), (.some (215, false)), (.mov (.t 16)), 49, [48, 47, 23, 22, 5, 4, 3, 2, 0, 1, 21, 11, 10, 9, 8, 6, 7, 20, 15, 14, 12, 13, 19, 18, 16, 17, 46, 29, 28, 27, 26, 24, 25, 45, 35, 34, 33, 32, 30, 31, 44, 39, 38, 36, 37, 43, 42, 40, 41]⟩, ⟨(some 217), (.some (215, false)), (.mov (.t 13)), 50, [48, 47, 23, 22, 5, 4, 3, 2, 0, 1, 21, 11, 10, 9, 8, 6, 7, 20, 15, 14, 12, 13, 19, 18, 16, 17, 46, 29, 28, 27, 26, 24, 25, 45, 35, 34, 33, 32, 30, 31, 44, 39, 38, 36, 37, 43, 42, 40, 41]⟩, ⟨(some 218), (.some (215, false)), (.bin .neq (.t 216) (.t 217)), 51, [49, 48, 47, 23, 22, 5, 4, 3, 2, 0, 1, 21, 11, 10, 9, 8, 6, 7, 20, 15, 14, 12, 13, 19, 18, 16, 17, 46, 29, 28, 27, 26, 24, 25, 45, 35, 34, 33, 32, 30, 31, 44, 39, 38, 36, 37, 43, 42, 40, 41, 50]⟩, ⟨(some 219), (.some (215, false)), (.mov (.t 218)), 52, [51, 49, 48, 47, 23, 22, 5, 4, 3, 2, 0, 1, 21, 11, 10, 9, 8, 6, 7, 20, 15, 14, 12, 13, 19, 18, 16, 17, 46, 29, 28, 27, 26, 24, 25, 45, 35, 34, 33, 32, 30, 31, 44, 39, 38, 36, 37, 43, 42, 40, 41, 50]⟩, ⟨(some 220), (.some (219, true)), (.mov (.t 15)), 53, [52, 51, 49, 48, 47, 23, 22, 5, 4, 3, 2, 0, 1, 21, 11, 10, 9, 8, 6, 7, 20, 15, 14, 12, 13, 19, 18, 16, 17, 46, 29, 28, 27, 26, 24, 25, 45, 35, 34, 33, 32, 30, 31, 44, 39, 38, 36, 37, 43, 42, 40, 41, 50]⟩, ⟨(some 221), (.some (219, true)), (.mov (.t 16)), 54, [52, 51, 49, 48, 47, 23, 22, 5, 4, 3, 2, 0, 1, 21, 11, 10, 9, 8, 6, 7, 20, 15, 14, 12, 13, 19, 18, 16, 17, 46, 29, 28, 27, 26, 24, 25, 45, 35, 34, 33, 32, 30, 31, 44, 39, 38, 36, 37, 43, 42, 40, 41, 50]⟩, ⟨(some 222), (.some (219, true)), (.iadr 1 (.t 220) (.t 221)), 55, [53, 52, 51, 49, 48, 47, 23, 22, 5, 4, 3, 2, 0, 1, 21, 11, 10, 9, 8, 6, 7, 20, 15, 14, 12, 13, 19, 18, 16, 17, 46, 29, 28, 27, 26, 24, 25, 45, 35, 34, 33, 32, 30, 31, 44, 39, 38, 36, 37, 43, 42, 40, 41, 50, 54]⟩, ⟨(some 223), (.some (219, true)), (.load 1 false (.t 222)), 56, [55, 53, 52, 51, 49, 48, 47, 23, 22, 5, 4, 3, 2, 0, 1, 21, 11, 10, 9, 8, 6, 7, 20, 15, 14, 12, 13, 19, 18, 16, 17, 46, 29, 28, 27, 26, 24, 25, 45, 35, 34, 33, 32, 30, 31, 44, 39, 38, 36, 37, 43, 42, 40, 41, 50, 54]⟩, ⟨(some 224), (.some (219, true)), (.mov (.t 12)), 57, [52, 51, 49, 48, 47, 23, 22, 5, 4, 3, 2, 0, 1, 21, 11, 10, 9, 8, 6, 7, 20, 15, 14, 12, 13, 19, 18, 16, 17, 46, 29, 28, 27, 26, 24, 25, 45, 35, 34, 33, 32, 30, 31, 44, 39, 38, 36, 37, 43, 42, 40, 41, 50]⟩, ⟨(some 225), (.some (219, true)), (.mov (.t 16)), 58, [52, 51, 49, 48, 47, 23, 22, 5, 4, 3, 2, 0, 1, 21, 11, 10, 9, 8, 6, 7, 20, 15, 14, 12, 13, 19, 18, 16, 17, 46, 29, 28, 27, 26, 24, 25, 45, 35, 34, 33, 32, 30, 31, 44, 39, 38, 36, 37, 43, 42, 40, 41, 50]⟩, ⟨(some 226), (.some (219, true)), (.iadr 1 (.t 224) (.t 225)), 59, [57, 52, 51, 49, 48, 47, 23, 22, 5, 4, 3, 2, 0, 1, 21, 11, 10, 9, 8, 6, 7, 20, 15, 14, 12, 13, 19, 18, 16, 17, 46, 29, 28, 27, 26, 24, 25, 45, 35, 34, 33, 32, 30, 31, 44, 39, 38, 36, 37, 43, 42, 40, 41, 50, 58]⟩, ⟨(some 227), (.some (219, true)), (.load 1 false (.t 226)), 60, [59, 57, 52, 51, 49, 48, 47, 23, 22, 5, 4, 3, 2, 0, 1, 21, 11, 10, 9, 8, 6, 7, 20, 15, 14, 12, 13, 19, 18, 16, 17, 46, 29, 28, 27, 26, 24, 25, 45, 35, 34, 33, 32, 30, 31, 44, 39, 38, 36, 37, 43, 42, 40, 41, 50, 58]⟩, ⟨(some 228), (.some (219, true)), (.bin .neq (.t 223) (.t 227)), 61, [56, 55, 53, 52, 51, 49, 48, 47, 23, 22, 5, 4, 3, 2, 0, 1, 21, 11, 10, 9, 8, 6, 7, 20, 15, 14, 12, 13, 19, 18, 16, 17, 46, 29, 28, 27, 26, 24, 25, 45, 35, 34, 33, 32, 30, 31, 44, 39, 38, 36, 37, 43, 42, 40, 41, 50, 54, 60, 59, 57, 58]⟩, ⟨(some 229), (.some (215, false)), (.pick (.t 219) (.t 228) (.c (.bool false))), 62, [52, 51, 49, 48, 47, 23, 22, 5, 4, 3, 2, 0, 1, 21, 11, 10, 9, 8, 6, 7, 20, 15, 14, 12, 13, 19, 18, 16, 17, 46, 29, 28, 27, 26, 24, 25, 45, 35, 34, 33, 32, 30, 31, 44, 39, 38, 36, 37, 43, 42, 40, 41, 50, 61, 56, 55, 53, 54, 60, 59, 57, 58]⟩, ⟨(some 230), .none, (.pick (.t 215) (.c (.bool true)) (.t 229)), 63, [48, 47, 23, 22, 5, 4, 3, 2, 0, 1, 21, 11, 10, 9, 8, 6, 7, 20, 15, 14, 12, 13, 19, 18, 16, 17, 46, 29, 28, 27, 26, 24, 25, 45, 35, 34, 33, 32, 30, 31, 44, 39, 38, 36, 37, 43, 42, 40, 41, 62, 52, 51, 49, 50, 61, 56, 55, 53, 54, 60, 59, 57, 58]⟩]) (.cond (.t 230) (.seq (.reg false [⟨(some 2), .none, (.mov (.c (.bool false))), 0, []⟩]) .ret) .skip))) (.reg false [⟨(some 165), .none, (.mov (.t 16)), 0, []⟩, ⟨(some 166), .none, (.bin .add (.t 165) (.c (.int .i64 1))), 1, []⟩, ⟨(some 16), .none, (.mov (.t 166)), 2, []⟩])))))) (.seq (.seq (.reg false [⟨(some 17), .none, (.mov (.c (.int .i64 0))), 0, []⟩]) (.block 10 (.loop (.seq (.seq (.reg false [⟨(some 231), .none, (.mov (.t 17)), 0, []⟩, ⟨(some 232), .none, (.mov (.t 12)), 1, []⟩, ⟨(some 233), .none, (.lenS (.t 232)), 2, []⟩, ⟨(some 234), .none, (.bin .lss (.t 231) (.t 233)), 3, []⟩]) (.cond (.t 234) .skip (.exit 10))) (.seq (.block 11 (.reg false [⟨(some 237), .none, (.mov (.t 15)), 0, []⟩, ⟨(some 238), .none, (.mov (.t 17)), 1, []⟩, ⟨(some 239), .none, (.call 36 [(.t 237), (.t 238), (.c (.int .i64 1000))]), 2, []⟩, ⟨(some 15), .none, (.mov (.t 239)), 3, []⟩])) (.reg false [⟨(some 235), .none, (.mov (.t 17)), 0, []⟩, ⟨(some 236), .none, (.bin .add (.t 235) (.c (.int .i64 1))), 1, []⟩, ⟨(some 17), .none, (.mov (.t 236)), 2, []⟩])))))) (.seq (.reg false [⟨(some 241), .none, (.mov (.t 0)), 0, []⟩, ⟨(some 242), .none, (.call 50 [(.t 241)]), 1, []⟩, ⟨(some 240), .none, (.mov (.t 242)), 2, []⟩, ⟨(some 243), .none, (.ext (.t 240) 0), 3, []⟩, ⟨(some 244), .none, (.ext (.t 240) 1), 4, []⟩, ⟨(some 245), .none, (.ext (.t 240) 2), 5, []⟩, ⟨(some 18), .none, (.mov (.t 243)), 6, []⟩, ⟨(some 19), .none, (.mov (.t 244)), 7, []⟩, ⟨(some 20), .none, (.mov (.t 245)), 8, []⟩]) (.seq (.reg false [⟨(some 246), .none, (.mov (.t 15)), 0, []⟩, ⟨(some 247), .none, (.call 34 [(.t 246)]), 1, []⟩, ⟨(some 248), .none, (.bin .eql (.t 247) (.c (.int .i64 0))), 2, []⟩, ⟨(some 249), .none, (.mov (.t 248)), 3, []⟩, ⟨(some 250), (.some (249, true)), (.mov (.t 18)), 4, []⟩, ⟨(some 251), (.some (249, true)), (.mov (.t 19)), 5, []⟩, ⟨(some 252), (.some (249, true)), (.mov (.t 20)), 6, []⟩, ⟨(some 253), (.some (249, true)), (.call 25 [(.t 250), (.t 251), (.t 252)]), 7, []⟩, ⟨(some 254), (.some (249, true)), (.mov (.t 18)), 8, []⟩, ⟨(some 255), (.some (249, true)), (.mov (.t 19)), 9, []⟩, ⟨(some 256), (.some (249, true)), (.mov (.t 20)), 10, []⟩, ⟨(some 257), (.some (249, true)), (.call 24 [(.t 254), (.t 255), (.t 256)]), 11, []⟩, ⟨(some 258), (.some (249, true)), (.bin .eql (.t 253) (.t 257)), 12, []⟩, ⟨(some 259), .none, (.pick (.t 249) (.t 258) (.c (.bool false))), 13, []⟩, ⟨(some 2), .none, (.mov (.t 259)), 14, []⟩]) .ret))))))))))))))), [(.t 2)]⟩
theorem k14 : EE.fns 14 = some c14 := by kernel_rfl
def c15 : CF := ⟨19, (.seq (.reg false [⟨(some 2), .none, (.mov (.c (.bool false))), 0, []⟩]) (.seq (.seq (.reg false [⟨(some 4), .none, (.mov (.t 0)), 0, []⟩, ⟨(some 5), .none, (.lenS (.t 4)), 1, []⟩, ⟨(some 6), .none, (.bin .gtr (.t 5) (.c (.int .i64 8))), 2, []⟩]) (.cond (.t 6) (.seq (.reg false [⟨(some 2), .none, (.mov (.c (.bool false))), 0, []⟩]) .ret) .skip)) (.seq (.seq (.reg false [⟨(some 3), .none, (.mov (.c (.int .i64 0))), 0, []⟩]) (.block 0 (.loop (.seq (.seq (.reg false [⟨(some 7), .none, (.mov (.t 3)), 0, []⟩, ⟨(some 8), .none, (.mov (.t 0)), 1, []⟩, ⟨(some 9), .none, (.lenS (.t 8)), 2, []⟩, ⟨(some 10), .none, (.bin .lss (.t 7) (.t 9)), 3, []⟩]) (.cond (.t 10) .skip (.exit 0))) (.seq (.block 1 (.seq (.reg false [⟨(some 13), .none, (.mov (.t 0)), 0, []⟩, ⟨(some 14), .none, (.mov (.t 3)), 1, []⟩, ⟨(some 15), .none, (.iadr 1 (.t 13) (.t 14)), 2, []⟩, ⟨(some 16), .none, (.load 1 false (.t 15)), 3, []⟩, ⟨(some 17), .none, (.call 51 [(.t 16), (.c (.int .i64 (-1000))), (.c (.int .i64 1000))]), 4, []⟩, ⟨(some 18), .none, (.un .not (.t 17)), 5, []⟩]) (.cond (.t 18) (.seq (.reg false [⟨(some 2), .none, (.mov (.c (.bool false))), 0, []⟩]) .ret) .skip))) (.reg false [⟨(some 11), .none, (.mov (.t 3)), 0, []⟩, ⟨(some 12), .none, (.bin .add (.t 11) (.c (.int .i64 1))), 1, []⟩, ⟨(some 3), .none, (.mov (.t 12)), 2, []⟩])))))) (.seq (.reg false [⟨(some 2), .none, (.mov (.c (.bool true))), 0, []⟩]) .ret)))), [(.t 2)]⟩
theorem k15 : EE.fns 15 = some c15 := by kernel_rfl
def c17 : CF := ⟨5, (.seq (.reg false [⟨(some 2), .none, (.mov (.c (.bool false))), 0, []⟩]) (.seq (.reg false [⟨(some 3), .none, (.mov (.t 0)), 0, []⟩, ⟨(some 4), .none, (.call 52 [(.t 3), (.c (.int .i64 8)), (.f 53)]), 1, []⟩, ⟨(some 2), .none, (.mov (.t 4)), 2, []⟩]) .ret)), [(.t 2)]⟩
theorem k17 : EE.fns 17 = some c17 := by kernel_rfl
def c24 : CF := ⟨40, (.seq (.reg false [⟨(some 6), .none, (.mov (.c (.int .i64 0))), 0, []⟩]) (.seq (.seq (.reg false [⟨(some 7), .none, (.mov (.t 0)), 0, []⟩, ⟨(some 8), .none, (.call 15 [(.t 7)]), 1, []⟩, ⟨(some 9), .none, (.un .not (.t 8)), 2, []⟩, ⟨(some 10), .none, (.mov (.t 9)), 3, []⟩, ⟨(some 11), (.some (10, false)), (.mov (.t 1)), 4, []⟩, ⟨(some 12), (.some (10, false)), (.bin .lss (.t 11) (.c (.int .i64 0))), 5, []⟩, ⟨(some 13), .none, (.pick (.t 10) (.c (.bool true)) (.t 12)), 6, []⟩, ⟨(some 14), .none, (.mov (.t 13)), 7, []⟩, ⟨(some 15), (.some (14, false)), (.mov (.t 1)), 8, []⟩, ⟨(some 16), (.some (14, false)), (.mov (.t 0)), 9, []⟩, ⟨(some 17), (.some (14, false)), (.lenS (.t 16)), 10, []⟩, ⟨(some 18), (.some (14, false)), (.bin .geq (.t 15) (.t 17)), 11, []⟩, ⟨(some 19), .none, (.pick (.t 14) (.c (.bool true)) (.t 18)), 12, []⟩, ⟨(some 20), .none, (.mov (.t 19)), 13, []⟩, ⟨(some 21), (.some (20, false)), (.mov (.t 2)), 14, []⟩, ⟨(some 22), (.some (20, false)), (.call 51 [(.t 21), (.c (.int .i64 0)), (.c (.int .i64 100000))]), 15, []⟩, ⟨(some 23), (.some (20, false)), (.un .not (.t 22)), 16, []⟩, ⟨(some 24), .none, (.pick (.t 20) (.c (.bool true)) (.t 23)), 17, []⟩, ⟨(some 25), .none, (.mov (.t 24)), 18, []⟩, ⟨(some 26), (.some (25, false)), (.mov (.t 2)), 19, []⟩, ⟨(some 27), (.some (25, false)), (.mov (.t 0)), 20, []⟩, ⟨(some 28), (.some (25, false)), (.mov (.t 1)), 21, []⟩, ⟨(some 29), (.some (25, false)), (.iadr 1 (.t 27) (.t 28)), 22, []⟩, ⟨(some 30), (.some (25, false)), (.load 1 false (.t 29)), 23, []⟩, ⟨(some 31), (.some (25, false)), (.bin .add (.t 26) (.t 30)), 24, []⟩, ⟨(some 32), (.some (25, false)), (.bin .lss (.t 31) (.c (.int .i64 0))), 25, []⟩, ⟨(some 33), .none, (.pick (.t 25) (.c (.bool true)) (.t 32)), 26, []⟩]) (.cond (.t 33) (.seq (.reg false [⟨(some 6), .none, (.mov (.c (.int .i64 0))), 0, []⟩]) .ret) .skip)) (.seq (.reg false [⟨(some 34), .none, (.mov (.t 2)), 0, []⟩, ⟨(some 35), .none, (.mov (.t 0)), 1, []⟩, ⟨(some 36), .none, (.mov (.t 1)), 2, []⟩, ⟨(some 37), .none, (.iadr 1 (.t 35) (.t 36)), 3, []⟩, ⟨(some 38), .none, (.load 1 false (.t 37)), 4, []⟩, ⟨(some 39), .none, (.bin .add (.t 34) (.t 38)), 5, []⟩, ⟨(some 6), .none, (.mov (.t 39)), 6, []⟩]) .ret))), [(.t 6)]⟩
theorem k24 : EE.fns 24 = some c24 := by kernel_rfl
def c25 : CF := ⟨30, (.seq (.reg false [⟨(some 6), .none, (.mov (.c (.int .i64 0))), 0, []⟩]) (.seq (.seq (.reg false [⟨(some 7), .none, (.mov (.t 0)), 0, []⟩, ⟨(some 8), .none, (.call 17 [(.t 7)]), 1, []⟩, ⟨(some 9), .none, (.un .not (.t 8)), 2, []⟩, ⟨(some 10), .none, (.mov (.t 9)), 3, []⟩, ⟨(some 11), (.some (10, false)), (.mov (.t 1)), 4, []⟩, ⟨(some 12), (.some (10, false)), (.mov (.t 0)), 5, []⟩, ⟨(some 13), (.some (10, false)), (.lenS (.t 12)), 6, []⟩, ⟨(some 14), (.some (10, false)), (.bin .sub (.t 13) (.c (.int .i64 1))), 7, []⟩, ⟨(some 15), (.some (10, false)), (.call 54 [(.t 11), (.c (.int .i64 0)), (.t 14)]), 8, []⟩, ⟨(some 16), (.some (10, false)), (.un .not (.t 15)), 9, []⟩, ⟨(some 17), .none, (.pick (.t 10) (.c (.bool true)) (.t 16)), 10, []⟩, ⟨(some 18), .none, (.mov (.t 17)), 11, []⟩, ⟨(some 19), (.some (18, false)), (.mov (.t 2)), 12, []⟩, ⟨(some 20), (.some (18, false)), (.call 56 [(.t 19)]), 13, []⟩, ⟨(some 21), (.some (18, false)), (.un .not (.t 20)), 14, []⟩, ⟨(some 22), .none, (.pick (.t 18) (.c (.bool true)) (.t 21)), 15, []⟩]) (.cond (.t 22) (.seq (.reg false [⟨(some 6), .none, (.mov (.c (.int .i64 0))), 0, []⟩]) .ret) .skip)) (.seq (.reg false [⟨(some 23), .none, (.mov (.t 2)), 0, []⟩, ⟨(some 24), .none, (.mov (.t 0)), 1, []⟩, ⟨(some 25), .none, (.mov (.t 1)), 2, []⟩, ⟨(some 26), .none, (.iadr 1 (.t 24) (.t 25)), 3, []⟩, ⟨(some 27), .none, (.load 1 false (.t 26)), 4, []⟩, ⟨(some 28), .none, (.bin .add (.t 23) (.t 27)), 5, []⟩, ⟨(some 29), .none, (.mx (.c (.int .i64 0)) (.t 28)), 6, []⟩, ⟨(some 6), .none, (.mov (.t 29)), 7, []⟩]) .ret))), [(.t 6)]⟩
theorem k25 : EE.fns 25 = some c25 := by kernel_rfl
def c26 : CF := ⟨6, (.seq (.reg false [⟨(some 2), .none, (.mov (.c (.bool false))), 0, []⟩]) (.seq (.reg false [⟨(some 3), .none, (.mov (.t 0)), 0, []⟩, ⟨(some 4), .none, (.lenS (.t 3)), 1, []⟩, ⟨(some 5), .none, (.bin .gtr (.t 4) (.c (.int .i64 1048576))), 2, []⟩, ⟨(some 2), .none, (.mov (.t 5)), 3, []⟩]) .ret)), [(.t 2)]⟩
theorem k26 : EE.fns 26 = some c26 := by kernel_rfl
def c33 : CF := ⟨49, (.seq (.reg false [⟨(some 2), .none, (.mov (.c (.int .i64 0))), 0, []⟩]) (.seq (.seq (.reg false [⟨(some 6), .none, (.mov (.t 0)), 0, []⟩, ⟨(some 7), .none, (.call 15 [(.t 6)]), 1, []⟩, ⟨(some 8), .none, (.un .not (.t 7)), 2, []⟩, ⟨(some 9), .none, (.mov (.t 8)), 3, []⟩, ⟨(some 10), (.some (9, false)), (.mov (.t 0)), 4, []⟩, ⟨(some 11), (.some (9, false)), (.lenS (.t 10)), 5, []⟩, ⟨(some 12), (.some (9, false)), (.bin .eql (.t 11) (.c (.int .i64 0))), 6, []⟩, ⟨(some 13), .none, (.pick (.t 9) (.c (.bool true)) (.t 12)), 7, []⟩]) (.cond (.t 13) (.seq (.reg false [⟨(some 2), .none, (.mov (.c (.int .i64 0))), 0, []⟩]) .ret) .skip)) (.seq (.reg false [⟨(some 14), .none, (.mov (.t 0)), 0, []⟩, ⟨(some 15), .none, (.iadr 1 (.t 14) (.c (.int .i64 0))), 1, []⟩, ⟨(some 16), .none, (.load 1 false (.t 15)), 2, []⟩, ⟨(some 3), .none, (.mov (.t 16)), 3, []⟩]) (.seq (.reg false [⟨(some 17), .none, (.mov (.t 0)), 0, []⟩, ⟨(some 18), .none, (.iadr 1 (.t 17) (.c (.int .i64 0))), 1, []⟩, ⟨(some 19), .none, (.load 1 false (.t 18)), 2, []⟩, ⟨(some 4), .none, (.mov (.t 19)), 3, []⟩]) (.seq (.seq (.reg false [⟨(some 5), .none, (.mov (.c (.int .i64 0))), 0, []⟩]) (.block 0 (.loop (.seq (.seq (.reg false [⟨(some 20), .none, (.mov (.t 5)), 0, []⟩, ⟨(some 21), .none, (.mov (.t 0)), 1, []⟩, ⟨(some 22), .none, (.lenS (.t 21)), 2, []⟩, ⟨(some 23), .none, (.bin .lss (.t 20) (.t 22)), 3, []⟩]) (.cond (.t 23) .skip (.exit 0))) (.seq (.block 1 (.seq (.seq (.reg false [⟨(some 26), .none, (.mov (.t 0)), 0, []⟩, ⟨(some 27), .none, (.mov (.t 5)), 1, []⟩, ⟨(some 28), .none, (.iadr 1 (.t 26) (.t 27)), 2, []⟩, ⟨(some 29), .none, (.load 1 false (.t 28)), 3, []⟩, ⟨(some 30), .none, (.mov (.t 3)), 4, []⟩, ⟨(some 31), .none, (.bin .lss (.t 29) (.t 30)), 5, []⟩]) (.cond (.t 31) (.reg false [⟨(some 32), .none, (.mov (.t 0)), 0, []⟩, ⟨(some 33), .none, (.mov (.t 5)), 1, []⟩, ⟨(some 34), .none, (.iadr 1 (.t 32) (.t 33)), 2, []⟩, ⟨(some 35), .none, (.load 1 false (.t 34)), 3, []⟩, ⟨(some 3), .none, (.mov (.t 35)), 4, []⟩]) .skip)) (.seq (.reg false [⟨(some 36), .none, (.mov (.t 0)), 0, []⟩, ⟨(some 37), .none, (.mov (.t 5)), 1, []⟩, ⟨(some 38), .none, (.iadr 1 (.t 36) (.t 37)), 2, []⟩, ⟨(some 39), .none, (.load 1 false (.t 38)), 3, []⟩, ⟨(some 40), .none, (.mov (.t 4)), 4, []⟩, ⟨(some 41), .none, (.bin .gtr (.t 39) (.t 40)), 5, []⟩]) (.cond (.t 41) (.reg false [⟨(some 42), .none, (.mov (.t 0)), 0, []⟩, ⟨(some 43), .none, (.mov (.t 5)), 1, []⟩, ⟨(some 44), .none, (.iadr 1 (.t 42) (.t 43)), 2, []⟩, ⟨(some 45), .none, (.load 1 false (.t 44)), 3, []⟩, ⟨(some 4), .none, (.mov (.t 45)), 4, []⟩]) .skip)))) (.reg false [⟨(some 24), .none, (.mov (.t 5)), 0, []⟩, ⟨(some 25), .none, (.bin .add (.t 24) (.c (.int .i64 1))), 1, []⟩, ⟨(some 5), .none, (.mov (.t 25)), 2, []⟩])))))) (.seq (.reg false [⟨(some 46), .none, (.mov (.t 4)), 0, []⟩, ⟨(some 47), .none, (.mov (.t 3)), 1, []⟩, ⟨(some 48), .none, (.bin .sub (.t 46) (.t 47)), 2, []⟩, ⟨(some 2), .none, (.mov (.t 48)), 3, []⟩]) .ret)))))), [(.t 2)]⟩
theorem k33 : EE.fns 33 = some c33 := by kernel_rfl
def c34 : CF := ⟨16, (.seq (.reg false [⟨(some 2), .none, (.mov (.c (.int .i64 0))), 0, []⟩]) (.seq (.seq (.reg false [⟨(some 3), .none, (.mov (.t 0)), 0, []⟩, ⟨(some 4), .none, (.call 17 [(.t 3)]), 1, []⟩, ⟨(some 5), .none, (.un .not (.t 4)), 2, []⟩, ⟨(some 6), .none, (.mov (.t 5)), 3, []⟩, ⟨(some 7), (.some (6, false)), (.mov (.t 0)), 4, []⟩, ⟨(some 8), (.some (6, false)), (.lenS (.t 7)), 5, []⟩, ⟨(some 9), (.some (6, false)), (.bin .eql (.t 8) (.c (.int .i64 0))), 6, []⟩, ⟨(some 10), .none, (.pick (.t 6) (.c (.bool true)) (.t 9)), 7, []⟩]) (.cond (.t 10) (.seq (.reg false [⟨(some 2), .none, (.mov (.c (.int .i64 0))), 0, []⟩]) .ret) .skip)) (.seq (.reg false [⟨(some 11), .none, (.mov (.t 0)), 0, []⟩, ⟨(some 12), .none, (.call 59 [(.t 11)]), 1, []⟩, ⟨(some 13), .none, (.mov (.t 0)), 2, []⟩, ⟨(some 14), .none, (.call 60 [(.t 13)]), 3, []⟩, ⟨(some 15), .none, (.bin .sub (.t 12) (.t 14)), 4, []⟩, ⟨(some 2), .none, (.mov (.t 15)), 5, []⟩]) .ret))), [(.t 2)]⟩
theorem k34 : EE.fns 34 = some c34 := by kernel_rfl
def c35 : CF := ⟨65, (.seq (.reg false [⟨(some 6), .none, (.mov (.c (.slice .none 0 0))), 0, []⟩]) (.seq (.seq (.reg false [⟨(some 8), .none, (.mov (.t 0)), 0, []⟩, ⟨(some 9), .none, (.call 15 [(.t 8)]), 1, []⟩, ⟨(some 10), .none, (.un .not (.t 9)), 2, []⟩]) (.cond (.t 10) (.seq (.reg false [⟨(some 11), .none, (.mkO 0 1 [(.int .i64 0)] []), 0, []⟩, ⟨(some 6), .none, (.mov (.t 11)), 1, []⟩]) .ret) .skip)) (.seq (.reg false [⟨(some 12), .none, (.mkO 0 1 [(.int .i64 0)] []), 0, []⟩, ⟨(some 13), .none, (.mov (.t 0)), 1, []⟩, ⟨(some 14), .none, (.app 1 8 (.t 12) (.t 13)), 2, []⟩, ⟨(some 7), .none, (.mov (.t 14)), 3, []⟩]) (.seq (.seq (.reg false [⟨(some 15), .none, (.mov (.t 1)), 0, []⟩, ⟨(some 16), .none, (.bin .lss (.t 15) (.c (.int .i64 0))), 1, []⟩, ⟨(some 17), .none, (.mov (.t 16)), 2, []⟩, ⟨(some 18), (.some (17, false)), (.mov (.t 1)), 3, []⟩, ⟨(some 19), (.some (17, false)), (.mov (.t 0)), 4, []⟩, ⟨(some 20), (.some (17, false)), (.lenS (.t 19)), 5, []⟩, ⟨(some 21), (.some (17, false)), (.bin .geq (.t 18) (.t 20)), 6, []⟩, ⟨(some 22), .none, (.pick (.t 17) (.c (.bool true)) (.t 21)), 7, []⟩, ⟨(some 23), .none, (.mov (.t 22)), 8, []⟩, ⟨(some 24), (.some (23, false)), (.mov (.t 2)), 9, []⟩, ⟨(some 25), (.some (23, false)), (.bin .lss (.t 24) (.c (.int .i64 0))), 10, []⟩, ⟨(some 26), .none, (.pick (.t 23) (.c (.bool true)) (.t 25)), 11, []⟩]) (.cond (.t 26) (.seq (.reg false [⟨(some 27), .none, (.mov (.t 7)), 0, []⟩, ⟨(some 6), .none, (.mov (.t 27)), 1, []⟩]) .ret) .skip)) (.seq (.block 0 (.seq (.reg false [⟨(some 32), .none, (.mov (.t 0)), 0, []⟩, ⟨(some 33), .none, (.mov (.t 1)), 1, []⟩, ⟨(some 34), .none, (.iadr 1 (.t 32) (.t 33)), 2, []⟩, ⟨(some 35), .none, (.load 1 false (.t 34)), 3, []⟩, ⟨(some 36), .none, (.mov (.t 2)), 4, []⟩, ⟨(some 37), .none, (.bin .gtr (.t 35) (.t 36)), 5, []⟩, ⟨(some 31), .none, (.mov (.t 37)), 6, []⟩]) (.cond (.t 31) (.reg false [⟨(some 38), .none, (.mov (.t 7)), 0, []⟩, ⟨(some 39), .none, (.mov (.t 1)), 1, []⟩, ⟨(some 40), .none, (.mov (.t 0)), 2, []⟩, ⟨(some 41), .none, (.mov (.t 1)), 3, []⟩, ⟨(some 42), .none, (.iadr 1 (.t 40) (.t 41)), 4, []⟩, ⟨(some 43), .none, (.load 1 false (.t 42)), 5, []⟩, ⟨(some 44), .none, (.mov (.t 2)), 6, []⟩, ⟨(some 45), .none, (.bin .sub (.t 43) (.t 44)), 7, []⟩, ⟨(some 46), .none, (.iadr 1 (.t 38) (.t 39)), 8, []⟩, ⟨.none, .none, (.store 1 (.t 46) (.t 45)), 9, []⟩]) (.seq (.reg false [⟨(some 48), .none, (.mov (.t 0)), 0, []⟩, ⟨(some 49), .none, (.mov (.t 1)), 1, []⟩, ⟨(some 50), .none, (.iadr 1 (.t 48) (.t 49)), 2, []⟩, ⟨(some 51), .none, (.load 1 false (.t 50)), 3, []⟩, ⟨(some 52), .none, (.un .neg (.t 51)), 4, []⟩, ⟨(some 53), .none, (.mov (.t 2)), 5, []⟩, ⟨(some 54), .none, (.bin .gtr (.t 52) (.t 53)), 6, []⟩, ⟨(some 47), .none, (.mov (.t 54)), 7, []⟩]) (.cond (.t 47) (.reg false [⟨(some 55), .none, (.mov (.t 7)), 0, []⟩, ⟨(some 56), .none, (.mov (.t 1)), 1, []⟩, ⟨(some 57), .none, (.mov (.t 0)), 2, []⟩, ⟨(some 58), .none, (.mov (.t 1)), 3, []⟩, ⟨(some 59), .none, (.iadr 1 (.t 57) (.t 58)), 4, []⟩, ⟨(some 60), .none, (.load 1 false (.t 59)), 5, []⟩, ⟨(some 61), .none, (.mov (.t 2)), 6, []⟩, ⟨(some 62), .none, (.bin .add (.t 60) (.t 61)), 7, []⟩, ⟨(some 63), .none, (.iadr 1 (.t 55) (.t 56)), 8, []⟩, ⟨.none, .none, (.store 1 (.t 63) (.t 62)), 9, []⟩]) (.reg false [⟨(some 28), .none, (.mov (.t 7)), 0, []⟩, ⟨(some 29), .none, (.mov (.t 1)), 1, []⟩, ⟨(some 30), .none, (.iadr 1 (.t 28) (.t 29)), 2, []⟩, ⟨.none, .none, (.store 1 (.t 30) (.c (.int .i64 0))), 3, []⟩])))))) (.seq (.reg false [⟨(some 64), .none, (.mov (.t 7)), 0, []⟩, ⟨(some 6), .none, (.mov (.t 64)), 1, []⟩]) .ret)))))), [(.t 6)]⟩
theorem k35 : EE.fns 35 = some c35 := by kernel_rfl
def c36 : CF := ⟨61, (.seq (.reg false [⟨(some 6), .none, (.mov (.c (.slice .none 0 0))), 0, []⟩]) (.seq (.seq (.reg false [⟨(some 8), .none, (.mov (.t 0)), 0, []⟩, ⟨(some 9), .none, (.call 17 [(.t 8)]), 1, []⟩, ⟨(some 10), .none, (.un .not (.t 9)), 2, []⟩]) (.cond (.t 10) (.seq (.reg false [⟨(some 6), .none, (.mov (.c (.slice .none 0 0))), 0, []⟩]) .ret) .skip)) (.seq (.reg false [⟨(some 11), .none, (.mov (.t 0)), 0, []⟩, ⟨(some 12), .none, (.call 61 [(.t 11)]), 1, []⟩, ⟨(some 7), .none, (.mov (.t 12)), 2, []⟩]) (.seq (.seq (.reg false [⟨(some 13), .none, (.mov (.t 1)), 0, []⟩, ⟨(some 14), .none, (.mov (.t 0)), 1, []⟩, ⟨(some 15), .none, (.lenS (.t 14)), 2, []⟩, ⟨(some 16), .none, (.bin .sub (.t 15) (.c (.int .i64 1))), 3, []⟩, ⟨(some 17), .none, (.call 54 [(.t 13), (.c (.int .i64 0)), (.t 16)]), 4, []⟩, ⟨(some 18), .none, (.un .not (.t 17)), 5, []⟩, ⟨(some 19), .none, (.mov (.t 18)), 6, []⟩, ⟨(some 20), (.some (19, false)), (.mov (.t 2)), 7, []⟩, ⟨(some 21), (.some (19, false)), (.bin .lss (.t 20) (.c (.int .i64 0))), 8, []⟩, ⟨(some 22), .none, (.pick (.t 19) (.c (.bool true)) (.t 21)), 9, []⟩]) (.cond (.t 22) (.seq (.reg false [⟨(some 23), .none, (.mov (.t 7)), 0, []⟩, ⟨(some 6), .none, (.mov (.t 23)), 1, []⟩]) .ret) .skip)) (.seq (.block 0 (.seq (.reg false [⟨(some 28), .none, (.mov (.t 7)), 0, []⟩, ⟨(some 29), .none, (.mov (.t 1)), 1, []⟩, ⟨(some 30), .none, (.iadr 1 (.t 28) (.t 29)), 2, []⟩, ⟨(some 31), .none, (.load 1 false (.t 30)), 3, []⟩, ⟨(some 32), .none, (.mov (.t 2)), 4, []⟩, ⟨(some 33), .none, (.bin .gtr (.t 31) (.t 32)), 5, []⟩, ⟨(some 27), .none, (.mov (.t 33)), 6, []⟩]) (.cond (.t 27) (.reg false [⟨(some 34), .none, (.mov (.t 7)), 0, []⟩, ⟨(some 35), .none, (.mov (.t 1)), 1, []⟩, ⟨(some 36), .none, (.mov (.t 7)), 2, []⟩, ⟨(some 37), .none, (.mov (.t 1)), 3, []⟩, ⟨(some 38), .none, (.iadr 1 (.t 36) (.t 37)), 4, []⟩, ⟨(some 39), .none, (.load 1 false (.t 38)), 5, []⟩, ⟨(some 40), .none, (.mov (.t 2)), 6, []⟩, ⟨(some 41), .none, (.bin .sub (.t 39) (.t 40)), 7, []⟩, ⟨(some 42), .none, (.iadr 1 (.t 34) (.t 35)), 8, []⟩, ⟨.none, .none, (.store 1 (.t 42) (.t 41)), 9, []⟩]) (.seq (.reg false [⟨(some 44), .none, (.mov (.t 7)), 0, []⟩, ⟨(some 45), .none, (.mov (.t 1)), 1, []⟩, ⟨(some 46), .none, (.iadr 1 (.t 44) (.t 45)), 2, []⟩, ⟨(some 47), .none, (.load 1 false (.t 46)), 3, []⟩, ⟨(some 48), .none, (.un .neg (.t 47)), 4, []⟩, ⟨(some 49), .none, (.mov (.t 2)), 5, []⟩, ⟨(some 50), .none, (.bin .gtr (.t 48) (.t 49)), 6, []⟩, ⟨(some 43), .none, (.mov (.t 50)), 7, []⟩]) (.cond (.t 43) (.reg false [⟨(some 51), .none, (.mov (.t 7)), 0, []⟩, ⟨(some 52), .none, (.mov (.t 1)), 1, []⟩, ⟨(some 53), .none, (.mov (.t 7)), 2, []⟩, ⟨(some 54), .none, (.mov (.t 1)), 3, []⟩, ⟨(some 55), .none, (.iadr 1 (.t 53) (.t 54)), 4, []⟩, ⟨(some 56), .none, (.load 1 false (.t 55)), 5, []⟩, ⟨(some 57), .none, (.mov (.t 2)), 6, []⟩, ⟨(some 58), .none, (.bin .add (.t 56) (.t 57)), 7, []⟩, ⟨(some 59), .none, (.iadr 1 (.t 51) (.t 52)), 8, []⟩, ⟨.none, .none, (.store 1 (.t 59) (.t 58)), 9, []⟩]) (.reg false [⟨(some 24), .none, (.mov (.t 7)), 0, []⟩, ⟨(some 25), .none, (.mov (.t 1)), 1, []⟩, ⟨(some 26), .none, (.iadr 1 (.t 24) (.t 25)), 2, []⟩, ⟨.none, .none, (.store 1 (.t 26) (.c (.int .i64 0))), 3, []⟩])))))) (.seq (.reg false [⟨(some 60), .none, (.mov (.t 7)), 0, []⟩, ⟨(some 6), .none, (.mov (.t 60)), 1, []⟩]) .ret)))))), [(.t 6)]⟩
theorem k36 : EE.fns 36 = some c36 := by kernel_rfl
def c39 : CF := ⟨84, (.seq (.reg false [⟨(some 4), .none, (.mov (.c (.slice .none 0 0))), 0, []⟩]) (.seq (.reg false [⟨(some 10), .none, (.mkO 0 1 [(.int .i64 0)] []), 0, []⟩, ⟨(some 5), .none, (.mov (.t 10)), 1, []⟩]) (.seq (.seq (.reg false [⟨(some 11), .none, (.mov (.t 0)), 0, []⟩, ⟨(some 12), .none, (.call 15 [(.t 11)]), 1, []⟩, ⟨(some 13), .none, (.un .not (.t 12)), 2, []⟩, ⟨(some 14), .none, (.mov (.t 13)), 3, []⟩, ⟨(some 15), (.some (14, false)), (.mov (.t 1)), 4, []⟩, ⟨(some 16), (.some (14, false)), (.bin .lss (.t 15) (.c (.int .i64 0))), 5, []⟩, ⟨(some 17), .none, (.pick (.t 14) (.c (.bool true)) (.t 16)), 6, []⟩]) (.cond (.t 17) (.seq (.reg false [⟨(some 18), .none, (.mov (.t 5)), 0, []⟩, ⟨(some 4), .none, (.mov (.t 18)), 1, []⟩]) .ret) .skip)) (.seq (.reg false [⟨(some 6), .none, (.mov (.c (.int .i64 0))), 0, []⟩]) (.seq (.seq (.reg false [⟨(some 7), .none, (.mov (.c (.int .i64 0))), 0, []⟩]) (.block 0 (.loop (.seq (.seq (.reg false [⟨(some 19), .none, (.mov (.t 7)), 0, []⟩, ⟨(some 20), .none, (.mov (.t 0)), 1, []⟩, ⟨(some 21), .none, (.lenS (.t 20)), 2, []⟩, ⟨(some 22), .none, (.bin .lss (.t 19) (.t 21)), 3, []⟩]) (.cond (.t 22) .skip (.exit 0))) (.seq (.block 1 (.seq (.reg false [⟨(some 25), .none, (.mkO 0 1 [(.int .i64 0)] []), 0, []⟩, ⟨(some 8), .none, (.mov (.t 25)), 1, []⟩]) (.seq (.seq (.reg false [⟨(some 9), .none, (.mov (.c (.int .i64 0))), 0, []⟩]) (.block 2 (.loop (.seq (.seq (.reg false [⟨(some 26), .none, (.mov (.t 9)), 0, []⟩, ⟨(some 27), .none, (.mov (.t 0)), 1, []⟩, ⟨(some 28), .none, (.lenS (.t 27)), 2, []⟩, ⟨(some 29), .none, (.bin .lss (.t 26) (.t 28)), 3, []⟩]) (.cond (.t 29) .skip (.exit 2))) (.seq (.block 3 (.seq (.reg true [⟨(some 32), .none, (.mov (.t 0)), 0, []⟩, ⟨(some 33), .none, (.mov (.t 9)), 1, []⟩, ⟨(some 34), .none, (.iadr 1 (.t 32) (.t 33)), 2, [0, 1]⟩, ⟨(some 35), .none, (.load 1 false (.t 34)), 3, [2, 0, 1]⟩, ⟨(some 36), .none, (.mov (.t 0)), 4, []⟩, ⟨(some 37), .none, (.mov (.t 7)), 5, []⟩, ⟨(some 38), .none, (.iadr 1 (.t 36) (.t 37)), 6, [4, 5]⟩, ⟨(some 39), .none, (.load 1 false (.t 38)), 7, [6, 4, 5]⟩, ⟨(some 40), .none, (.bin .geq (.t 35) (.t 39)), 8, [3, 2, 0, 1, 7, 6, 4, 5]⟩, ⟨(some 41), .none, (.mov (.t 40)), 9, [8, 3, 2, 0, 1, 7, 6, 4, 5]⟩, ⟨(some 42), (.some (41, true)), (.mov (.t 0)), 10, [9, 8, 3, 2, 0, 1, 7, 6, 4, 5]⟩, ⟨(some 43), (.some (41, true)), (.mov (.t 9)), 11, [9, 8, 3, 2, 0, 1, 7, 6, 4, 5]⟩, ⟨(some 44), (.some (41, true)), (.iadr 1 (.t 42) (.t 43)), 12, [10, 9, 8, 3, 2, 0, 1, 7, 6, 4, 5, 11]⟩, ⟨(some 45), (.some (41, true)), (.load 1 false (.t 44)), 13, [12, 10, 9, 8, 3, 2, 0, 1, 7, 6, 4, 5, 11]⟩, ⟨(some 46), (.some (41, true)), (.mov (.t 0)), 14, [9, 8, 3, 2, 0, 1, 7, 6, 4, 5]⟩, ⟨(some 47), (.some (41, true)), (.mov (.t 7)), 15, [9, 8, 3, 2, 0, 1, 7, 6, 4, 5]⟩, ⟨(some 48), (.some (41, true)), (.iadr 1 (.t 46) (.t 47)), 16, [14, 9, 8, 3, 2, 0, 1, 7, 6, 4, 5, 15]⟩, ⟨(some 49), (.some (41, true)), (.load 1 false (.t 48)), 17, [16, 14, 9, 8, 3, 2, 0, 1, 7, 6, 4, 5, 15]⟩, ⟨(some 50), (.some (41, true)), (.bin .sub (.t 45) (.t 49)), 18, [13, 12, 10, 9, 8, 3, 2, 0, 1, 7, 6, 4, 5, 11, 17, 16, 14, 15]⟩, ⟨(some 51), (.some (41, true)), (.mov (.t 1)), 19, [9, 8, 3, 2, 0, 1, 7, 6, 4, 5]⟩, ⟨(some 52), (.some (41, true)), (.bin .leq (.t 50) (.t 51)), 20, [18, 13, 12, 10, 9, 8, 3, 2, 0, 1, 7, 6, 4, 5, 11, 17, 16, 14, 15, 19]⟩, ⟨(some 53), .none, (.pick (.t 41) (.t 52) (.c (.bool false))), 21, [9, 8, 3, 2, 0, 1, 7, 6, 4, 5, 20, 18, 13, 12, 10, 11, 17, 16, 14, 15, 19]⟩]) (.cond (.t 53) (.reg false [⟨(some 54), .none, (.mov (.t 8)), 0, []⟩, ⟨(some 55), .none, (.mov (.t 9)), 1, []⟩, ⟨(some 56), .none, (.mkV 1 1 [(.int .i64 0)] [(0, (.t 55))]), 2, []⟩, ⟨(some 57), .none, (.app 1 8 (.t 54) (.t 56)), 3, []⟩, ⟨(some 8), .none, (.mov (.t 57)), 4, []⟩]) .skip))) (.reg false [⟨(some 30), .none, (.mov (.t 9)), 0, []⟩, ⟨(some 31), .none, (.bin .add (.t 30) (.c (.int .i64 1))), 1, []⟩, ⟨(some 9), .none, (.mov (.t 31)), 2, []⟩])))))) (.seq (.reg false [⟨(some 58), .none, (.mov (.t 8)), 0, []⟩, ⟨(some 59), .none, (.lenS (.t 58)), 1, []⟩, ⟨(some 60), .none, (.mov (.t 5)), 2, []⟩, ⟨(some 61), .none, (.lenS (.t 60)), 3, []⟩, ⟨(some 62), .none, (.bin .gtr (.t 59) (.t 61)), 4, []⟩, ⟨(some 63), .none, (.mov (.t 62)), 5, []⟩, ⟨(some 64), (.some (63, false)), (.mov (.t 8)), 6, []⟩, ⟨(some 65), (.some (63, false)), (.lenS (.t 64)), 7, []⟩, ⟨(some 66), (.some (63, false)), (.mov (.t 5)), 8, []⟩, ⟨(some 67), (.some (63, false)), (.lenS (.t 66)), 9, []⟩, ⟨(some 68), (.some (63, false)), (.bin .eql (.t 65) (.t 67)), 10, []⟩, ⟨(some 69), (.some (63, false)), (.mov (.t 68)), 11, []⟩, ⟨(some 70), (.some (69, true)), (.mov (.t 0)), 12, []⟩, ⟨(some 71), (.some (69, true)), (.mov (.t 7)), 13, []⟩, ⟨(some 72), (.some (69, true)), (.iadr 1 (.t 70) (.t 71)), 14, []⟩, ⟨(some 73), (.some (69, true)), (.load 1 false (.t 72)), 15, []⟩, ⟨(some 74), (.some (69, true)), (.mov (.t 6)), 16, []⟩, ⟨(some 75), (.some (69, true)), (.bin .lss (.t 73) (.t 74)), 17, []⟩, ⟨(some 76), (.some (63, false)), (.pick (.t 69) (.t 75) (.c (.bool false))), 18, []⟩, ⟨(some 77), .none, (.pick (.t 63) (.c (.bool true)) (.t 76)), 19, []⟩]) (.cond (.t 77) (.seq (.reg false [⟨(some 78), .none, (.mov (.t 8)), 0, []⟩, ⟨(some 5), .none, (.mov (.t 78)), 1, []⟩]) (.reg false [⟨(some 79), .none, (.mov (.t 0)), 0, []⟩, ⟨(some 80), .none, (.mov (.t 7)), 1, []⟩, ⟨(some 81), .none, (.iadr 1 (.t 79) (.t 80)), 2, []⟩, ⟨(some 82), .none, (.load 1 false (.t 81)), 3, []⟩, ⟨(some 6), .none, (.mov (.t 82)), 4, []⟩])) .skip))))) (.reg false [⟨(some 23), .none, (.mov (.t 7)), 0, []⟩, ⟨(some 24), .none, (.bin .add (.t 23) (.c (.int .i64 1))), 1, []⟩, ⟨(some 7), .none, (.mov (.t 24)), 2, []⟩])))))) (.seq (.reg false [⟨(some 83), .none, (.mov (.t 5)), 0, []⟩, ⟨(some 4), .none, (.mov (.t 83)), 1, []⟩]) .ret)))))), [(.t 4)]⟩
theorem k39 : EE.fns 39 = some c39 := by kernel_rfl
def c40 : CF := ⟨71, (.seq (.reg false [⟨(some 4), .none, (.mov (.c (.slice .none 0 0))), 0, []⟩]) (.seq (.reg false [⟨(some 12), .none, (.mkO 0 1 [(.int .i64 0)] []), 0, []⟩, ⟨(some 5), .none, (.mov (.t 12)), 1, []⟩]) (.seq (.seq (.reg false [⟨(some 13), .none, (.mov (.t 0)), 0, []⟩, ⟨(some 14), .none, (.call 17 [(.t 13)]), 1, []⟩, ⟨(some 15), .none, (.un .not (.t 14)), 2, []⟩, ⟨(some 16), .none, (.mov (.t 15)), 3, []⟩, ⟨(some 17), (.some (16, false)), (.mov (.t 1)), 4, []⟩, ⟨(some 18), (.some (16, false)), (.bin .lss (.t 17) (.c (.int .i64 0))), 5, []⟩, ⟨(some 19), .none, (.pick (.t 16) (.c (.bool true)) (.t 18)), 6, []⟩]) (.cond (.t 19) (.seq (.reg false [⟨(some 20), .none, (.mov (.t 5)), 0, []⟩, ⟨(some 4), .none, (.mov (.t 20)), 1, []⟩]) .ret) .skip)) (.seq (.reg false [⟨(some 6), .none, (.mov (.c (.int .i64 0))), 0, []⟩]) (.seq (.seq (.reg false [⟨(some 21), .none, (.mov (.t 0)), 0, []⟩, ⟨(some 22), .none, (.lenS (.t 21)), 1, []⟩, ⟨(some 23), .none, (.mov (.c (.int .i64 0))), 2, []⟩]) (.block 0 (.loop (.seq (.reg false [⟨(some 24), .none, (.bin .lss (.t 23) (.t 22)), 0, []⟩]) (.seq (.cond (.t 24) .skip (.exit 0)) (.seq (.block 1 (.seq (.reg false [⟨(some 25), .none, (.iadr 1 (.t 21) (.t 23)), 0, []⟩, ⟨(some 26), .none, (.load 1 false (.t 25)), 1, []⟩, ⟨(some 8), .none, (.mov (.t 26)), 2, []⟩]) (.seq (.reg false [⟨(some 27), .none, (.mkO 0 1 [(.int .i64 0)] []), 0, []⟩, ⟨(some 9), .none, (.mov (.t 27)), 1, []⟩]) (.seq (.seq (.reg false [⟨(some 28), .none, (.mov (.t 0)), 0, []⟩, ⟨(some 29), .none, (.lenS (.t 28)), 1, []⟩, ⟨(some 30), .none, (.mov (.c (.int .i64 0))), 2, []⟩]) (.block 2 (.loop (.seq (.reg false [⟨(some 31), .none, (.bin .lss (.t 30) (.t 29)), 0, []⟩]) (.seq (.cond (.t 31) .skip (.exit 2)) (.seq (.block 3 (.seq (.reg false [⟨(some 32), .none, (.mov (.t 30)), 0, []⟩, ⟨(some 33), .none, (.iadr 1 (.t 28) (.t 30)), 1, []⟩, ⟨(some 34), .none, (.load 1 false (.t 33)), 2, []⟩, ⟨(some 10), .none, (.mov (.t 32)), 3, []⟩, ⟨(some 11), .none, (.mov (.t 34)), 4, []⟩]) (.seq (.reg false [⟨(some 35), .none, (.mov (.t 11)), 0, []⟩, ⟨(some 36), .none, (.mov (.t 8)), 1, []⟩, ⟨(some 37), .none, (.bin .geq (.t 35) (.t 36)), 2, []⟩, ⟨(some 38), .none, (.mov (.t 37)), 3, []⟩, ⟨(some 39), (.some (38, true)), (.mov (.t 11)), 4, []⟩, ⟨(some 40), (.some (38, true)), (.mov (.t 8)), 5, []⟩, ⟨(some 41), (.some (38, true)), (.bin .sub (.t 39) (.t 40)), 6, []⟩, ⟨(some 42), (.some (38, true)), (.mov (.t 1)), 7, []⟩, ⟨(some 43), (.some (38, true)), (.bin .leq (.t 41) (.t 42)), 8, []⟩, ⟨(some 44), .none, (.pick (.t 38) (.t 43) (.c (.bool false))), 9, []⟩]) (.cond (.t 44) (.reg false [⟨(some 45), .none, (.mov (.t 9)), 0, []⟩, ⟨(some 46), .none, (.mov (.t 10)), 1, []⟩, ⟨(some 47), .none, (.mkV 1 1 [(.int .i64 0)] [(0, (.t 46))]), 2, []⟩, ⟨(some 48), .none, (.app 1 8 (.t 45) (.t 47)), 3, []⟩, ⟨(some 9), .none, (.mov (.t 48)), 4, []⟩]) .skip)))) (.reg false [⟨(some 49), .none, (.bin .add (.t 30) (.c (.int .i64 1))), 0, []⟩, ⟨(some 30), .none, (.mov (.t 49)), 1, []⟩]))))))) (.seq (.reg false [⟨(some 50), .none, (.mov (.t 9)), 0, []⟩, ⟨(some 51), .none, (.lenS (.t 50)), 1, []⟩, ⟨(some 52), .none, (.mov (.t 5)), 2, []⟩, ⟨(some 53), .none, (.lenS (.t 52)), 3, []⟩, ⟨(some 54), .none, (.bin .gtr (.t 51) (.t 53)), 4, []⟩, ⟨(some 55), .none, (.mov (.t 54)), 5, []⟩, ⟨(some 56), (.some (55, false)), (.mov (.t 9)), 6, []⟩, ⟨(some 57), (.some (55, false)), (.lenS (.t 56)), 7, []⟩, ⟨(some 58), (.some (55, false)), (.mov (.t 5)), 8, []⟩, ⟨(some 59), (.some (55, false)), (.lenS (.t 58)), 9, []⟩, ⟨(some 60), (.some (55, false)), (.bin .eql (.t 57) (.t 59)), 10, []⟩, ⟨(some 61), (.some (55, false)), (.mov (.t 60)), 11, []⟩, ⟨(some 62), (.some (61, true)), (.mov (.t 8)), 12, []⟩, ⟨(some 63), (.some (61, true)), (.mov (.t 6)), 13, []⟩, ⟨(some 64), (.some (61, true)), (.bin .lss (.t 62) (.t 63)), 14, []⟩, ⟨(some 65), (.some (55, false)), (.pick (.t 61) (.t 64) (.c (.bool false))), 15, []⟩, ⟨(some 66), .none, (.pick (.t 55) (.c (.bool true)) (.t 65)), 16, []⟩]) (.cond (.t 66) (.reg false [⟨(some 67), .none, (.mov (.t 9)), 0, []⟩, ⟨(some 68), .none, (.mov (.t 8)), 1, []⟩, ⟨(some 5), .none, (.mov (.t 67)), 2, []⟩, ⟨(some 6), .none, (.mov (.t 68)), 3, []⟩]) .skip)))))) (.reg false [⟨(some 69), .none, (.bin .add (.t 23) (.c (.int .i64 1))), 0, []⟩, ⟨(some 23), .none, (.mov (.t 69)), 1, []⟩]))))))) (.seq (.reg false [⟨(some 70), .none, (.mov (.t 5)), 0, []⟩, ⟨(some 4), .none, (.mov (.t 70)), 1, []⟩]) .ret)))))), [(.t 4)]⟩
theorem k40 : EE.fns 40 = some c40 := by kernel_rfl
def c46 : CF := ⟨26, (.seq (.reg false [⟨(some 4), .none, (.mov (.c (.bool false))), 0, []⟩]) (.seq (.seq (.reg false [⟨(some 6), .none, (.mov (.t 0)), 0, []⟩, ⟨(some 7), .none, (.lenS (.t 6)), 1, []⟩, ⟨(some 8), .none, (.mov (.t 1)), 2, []⟩, ⟨(some 9), .none, (.lenS (.t 8)), 3, []⟩, ⟨(some 10), .none, (.bin .neq (.t 7) (.t 9)), 4, []⟩]) (.cond (.t 10) (.seq (.reg false [⟨(some 4), .none, (.mov (.c (.bool false))), 0, []⟩]) .ret) .skip)) (.seq (.seq (.reg false [⟨(some 5), .none, (.mov (.c (.int .i64 0))), 0, []⟩]) (.block 0 (.loop (.seq (.seq (.reg false [⟨(some 11), .none, (.mov (.t 5)), 0, []⟩, ⟨(some 12), .none, (.mov (.t 0)), 1, []⟩, ⟨(some 13), .none, (.lenS (.t 12)), 2, []⟩, ⟨(some 14), .none, (.bin .lss (.t 11) (.t 13)), 3, []⟩]) (.cond (.t 14) .skip (.exit 0))) (.seq (.block 1 (.seq (.reg true [⟨(some 17), .none, (.mov (.t 0)), 0, []⟩, ⟨(some 18), .none, (.mov (.t 5)), 1, []⟩, ⟨(some 19), .none, (.iadr 1 (.t 17) (.t 18)), 2, [0, 1]⟩, ⟨(some 20), .none, (.load 1 false (.t 19)), 3, [2, 0, 1]⟩, ⟨(some 21), .none, (.mov (.t 1)), 4, []⟩, ⟨(some 22), .none, (.mov (.t 5)), 5, []⟩, ⟨(some 23), .none, (.iadr 1 (.t 21) (.t 22)), 6, [4, 5]⟩, ⟨(some 24), .none, (.load 1 false (.t 23)), 7, [6, 4, 5]⟩, ⟨(some 25), .none, (.bin .neq (.t 20) (.t 24)), 8, [3, 2, 0, 1, 7, 6, 4, 5]⟩]) (.cond (.t 25) (.seq (.reg false [⟨(some 4), .none, (.mov (.c (.bool false))), 0, []⟩]) .ret) .skip))) (.reg false [⟨(some 15), .none, (.mov (.t 5)), 0, []⟩, ⟨(some 16), .none, (.bin .add (.t 15) (.c (.int .i64 1))), 1, []⟩, ⟨(some 5), .none, (.mov (.t 16)), 2, []⟩])))))) (.seq (.reg false [⟨(some 4), .none, (.mov (.c (.bool true))), 0, []⟩]) .ret)))), [(.t 4)]⟩
theorem k46 : EE.fns 46 = some c46 := by kernel_rfl
def c48 : CF := ⟨14, (.seq (.reg false [⟨(some 2), .none, (.mov (.c (.slice .none 0 0))), 0, []⟩, ⟨(some 3), .none, (.mov (.c (.int .i64 0))), 1, []⟩]) (.seq (.reg false [⟨(some 6), .none, (.mov (.t 0)), 0, []⟩, ⟨(some 7), .none, (.call 63 [(.t 6)]), 1, []⟩, ⟨(some 4), .none, (.mov (.t 7)), 2, []⟩]) (.seq (.reg false [⟨(some 8), .none, (.mov (.t 4)), 0, []⟩, ⟨(some 9), .none, (.mkO 6 1 [(.int .i64 0)] [(0, (.c (.int .i64 0))), (1, (.c (.int .i64 1))), (2, (.c (.int .i64 3))), (3, (.c (.int .i64 8))), (4, (.c (.int .i64 40))), (5, (.c (.int .i64 (-1))))]), 1, []⟩, ⟨(some 10), .none, (.call 66 [(.t 8), (.t 9)]), 2, []⟩, ⟨(some 5), .none, (.mov (.t 10)), 3, []⟩]) (.seq (.reg false [⟨(some 11), .none, (.mov (.t 4)), 0, []⟩, ⟨(some 12), .none, (.call 68 [(.t 11)]), 1, []⟩, ⟨(some 13), .none, (.mov (.t 5)), 2, []⟩, ⟨(some 2), .none, (.mov (.t 12)), 3, []⟩, ⟨(some 3), .none, (.mov (.t 13)), 4, []⟩]) .ret)))), [(.t 2), (.t 3)]⟩
theorem k48 : EE.fns 48 = some c48 := by kernel_rfl
def c49 : CF := ⟨20, (.seq (.reg false [⟨(some 2), .none, (.mov (.c (.slice .none 0 0))), 0, []⟩, ⟨(some 3), .none, (.mov (.c (.int .i64 0))), 1, []⟩, ⟨(some 4), .none, (.mov (.c (.int .i64 0))), 2, []⟩]) (.seq (.reg false [⟨(some 8), .none, (.mov (.t 0)), 0, []⟩, ⟨(some 9), .none, (.call 63 [(.t 8)]), 1, []⟩, ⟨(some 5), .none, (.mov (.t 9)), 2, []⟩]) (.seq (.reg false [⟨(some 10), .none, (.mov (.t 5)), 0, []⟩, ⟨(some 11), .none, (.call 67 [(.t 10), (.c (.int .i64 9))]), 1, []⟩, ⟨(some 12), .none, (.bin .sub (.t 11) (.c (.int .i64 1))), 2, []⟩, ⟨(some 6), .none, (.mov (.t 12)), 3, []⟩]) (.seq (.reg false [⟨(some 13), .none, (.mov (.t 5)), 0, []⟩, ⟨(some 14), .none, (.mkO 6 1 [(.int .i64 0)] [(0, (.c (.int .i64 0))), (1, (.c (.int .i64 1))), (2, (.c (.int .i64 5))), (3, (.c (.int .i64 100))), (4, (.c (.int .i64 (-1)))), (5, (.c (.int .i64 9223372036854775807)))]), 1, []⟩, ⟨(some 15), .none, (.call 66 [(.t 13), (.t 14)]), 2, []⟩, ⟨(some 7), .none, (.mov (.t 15)), 3, []⟩]) (.seq (.reg false [⟨(some 16), .none, (.mov (.t 5)), 0, []⟩, ⟨(some 17), .none, (.call 68 [(.t 16)]), 1, []⟩, ⟨(some 18), .none, (.mov (.t 6)), 2, []⟩, ⟨(some 19), .none, (.mov (.t 7)), 3, []⟩, ⟨(some 2), .none, (.mov (.t 17)), 4, []⟩, ⟨(some 3), .none, (.mov (.t 18)), 5, []⟩, ⟨(some 4), .none, (.mov (.t 19)), 6, []⟩]) .ret))))), [(.t 2), (.t 3), (.t 4)]⟩
theorem k49 : EE.fns 49 = some c49 := by kernel_rfl
def c50 : CF := ⟨20, (.seq (.reg false [⟨(some 2), .none, (.mov (.c (.slice .none 0 0))), 0, []⟩, ⟨(some 3), .none, (.mov (.c (.int .i64 0))), 1, []⟩, ⟨(some 4), .none, (.mov (.c (.int .i64 0))), 2, []⟩]) (.seq (.reg false [⟨(some 8), .none, (.mov (.t 0)), 0, []⟩, ⟨(some 9), .none, (.call 63 [(.t 8)]), 1, []⟩, ⟨(some 5), .none, (.mov (.t 9)), 2, []⟩]) (.seq (.reg false [⟨(some 10), .none, (.mov (.t 5)), 0, []⟩, ⟨(some 11), .none, (.call 67 [(.t 10), (.c (.int .i64 9))]), 1, []⟩, ⟨(some 12), .none, (.bin .sub (.t 11) (.c (.int .i64 1))), 2, []⟩, ⟨(some 6), .none, (.mov (.t 12)), 3, []⟩]) (.seq (.reg false [⟨(some 13), .none, (.mov (.t 5)), 0, []⟩, ⟨(some 14), .none, (.mkO 7 1 [(.int .i64 0)] [(0, (.c (.int .i64 0))), (1, (.c (.int .i64 3))), (2, (.c (.int .i64 10))), (3, (.c (.int .i64 50))), (4, (.c (.int .i64 (-1)))), (5, (.c (.int .i64 100000))), (6, (.c (.int .i64 100001)))]), 1, []⟩, ⟨(some 15), .none, (.call 66 [(.t 13), (.t 14)]), 2, []⟩, ⟨(some 7), .none, (.mov (.t 15)), 3, []⟩]) (.seq (.reg false [⟨(some 16), .none, (.mov (.t 5)), 0, []⟩, ⟨(some 17), .none, (.call 68 [(.t 16)]), 1, []⟩, ⟨(some 18), .none, (.mov (.t 6)), 2, []⟩, ⟨(some 19), .none, (.mov (.t 7)), 3, []⟩, ⟨(some 2), .none, (.mov (.t 17)), 4, []⟩, ⟨(some 3), .none, (.mov (.t 18)), 5, []⟩, ⟨(some 4), .none, (.mov (.t 19)), 6, []⟩]) .ret))))), [(.t 2), (.t 3), (.t 4)]⟩
theorem k50 : EE.fns 50 = some c50 := by kernel_rfl
def c51 : CF := ⟨15, (.seq (.reg false [⟨(some 6), .none, (.mov (.c (.bool false))), 0, []⟩]) (.seq (.reg false [⟨(some 7), .none, (.mov (.t 0)), 0, []⟩, ⟨(some 8), .none, (.mov (.t 1)), 1, []⟩, ⟨(some 9), .none, (.bin .geq (.t 7) (.t 8)), 2, []⟩, ⟨(some 10), .none, (.mov (.t 9)), 3, []⟩, ⟨(some 11), (.some (10, true)), (.mov (.t 0)), 4, []⟩, ⟨(some 12), (.some (10, true)), (.mov (.t 2)), 5, []⟩, ⟨(some 13), (.some (10, true)), (.bin .leq (.t 11) (.t 12)), 6, []⟩, ⟨(some 14), .none, (.pick (.t 10) (.t 13) (.c (.bool false))), 7, []⟩, ⟨(some 6), .none, (.mov (.t 14)), 8, []⟩]) .ret)), [(.t 6)]⟩
theorem k51 : EE.fns 51 = some c51 := by kernel_rfl
def c52 : CF := ⟨24, (.seq (.reg false [⟨(some 6), .none, (.mov (.c (.bool false))), 0, []⟩]) (.seq (.seq (.reg false [⟨(some 9), .none, (.mov (.t 0)), 0, []⟩, ⟨(some 10), .none, (.lenS (.t 9)), 1, []⟩, ⟨(some 11), .none, (.mov (.c (.int .i64 0))), 2, []⟩]) (.block 0 (.loop (.seq (.reg false [⟨(some 12), .none, (.bin .lss (.t 11) (.t 10)), 0, []⟩]) (.seq (.cond (.t 12) .skip (.exit 0)) (.seq (.block 1 (.seq (.reg false [⟨(some 13), .none, (.iadr 1 (.t 9) (.t 11)), 0, []⟩, ⟨(some 14), .none, (.load 1 false (.t 13)), 1, []⟩, ⟨(some 8), .none, (.mov (.t 14)), 2, []⟩]) (.seq (.reg false [⟨(some 15), .none, (.mov (.t 2)), 0, []⟩, ⟨(some 16), .none, (.mov (.t 8)), 1, []⟩, ⟨(some 17), .none, (.callV (.t 15) [(.t 16)]), 2, []⟩, ⟨(some 18), .none, (.un .not (.t 17)), 3, []⟩]) (.cond (.t 18) (.seq (.reg false [⟨(some 6), .none, (.mov (.c (.bool false))), 0, []⟩]) .ret) .skip)))) (.reg false [⟨(some 19), .none, (.bin .add (.t 11) (.c (.int .i64 1))), 0, []⟩, ⟨(some 11), .none, (.mov (.t 19)), 1, []⟩]))))))) (.seq (.reg false [⟨(some 20), .none, (.mov (.t 0)), 0, []⟩, ⟨(some 21), .none, (.lenS (.t 20)), 1, []⟩, ⟨(some 22), .none, (.mov (.t 1)), 2, []⟩, ⟨(some 23), .none, (.bin .leq (.t 21) (.t 22)), 3, []⟩, ⟨(some 6), .none, (.mov (.t 23)), 4, []⟩]) .ret))), [(.t 6)]⟩
theorem k52 : EE.fns 52 = some c52 := by kernel_rfl
def c53 : CF := ⟨5, (.seq (.reg false [⟨(some 2), .none, (.mov (.c (.bool false))), 0, []⟩]) (.seq (.reg false [⟨(some 3), .none, (.mov (.t 0)), 0, []⟩, ⟨(some 4), .none, (.call 54 [(.t 3), (.c (.int .i64 (-1000))), (.c (.int .i64 1000))]), 1, []⟩, ⟨(some 2), .none, (.mov (.t 4)), 2, []⟩]) .ret)), [(.t 2)]⟩
theorem k53 : EE.fns 53 = some c53 := by kernel_rfl
def c54 : CF := ⟨15, (.seq (.reg false [⟨(some 6), .none, (.mov (.c (.bool false))), 0, []⟩]) (.seq (.reg false [⟨(some 7), .none, (.mov (.t 0)), 0, []⟩, ⟨(some 8), .none, (.mov (.t 1)), 1, []⟩, ⟨(some 9), .none, (.bin .geq (.t 7) (.t 8)), 2, []⟩, ⟨(some 10), .none, (.mov (.t 9)), 3, []⟩, ⟨(some 11), (.some (10, true)), (.mov (.t 0)), 4, []⟩, ⟨(some 12), (.some (10, true)), (.mov (.t 2)), 5, []⟩, ⟨(some 13), (.some (10, true)), (.bin .leq (.t 11) (.t 12)), 6, []⟩, ⟨(some 14), .none, (.pick (.t 10) (.t 13) (.c (.bool false))), 7, []⟩, ⟨(some 6), .none, (.mov (.t 14)), 8, []⟩]) .ret)), [(.t 6)]⟩
theorem k54 : EE.fns 54 = some c54 := by kernel_rfl
def c56 : CF := ⟨5, (.seq (.reg false [⟨(some 2), .none, (.mov (.c (.bool false))), 0, []⟩]) (.seq (.reg false [⟨(some 3), .none, (.mov (.t 0)), 0, []⟩, ⟨(some 4), .none, (.call 54 [(.t 3), (.c (.int .i64 0)), (.c (.int .i64 100000))]), 1, []⟩, ⟨(some 2), .none, (.mov (.t 4)), 2, []⟩]) .ret)), [(.t 2)]⟩
theorem k56 : EE.fns 56 = some c56 := by kernel_rfl
def c59 : CF := ⟨25, (.seq (.reg false [⟨(some 2), .none, (.mov (.c (.int .i64 0))), 0, []⟩]) (.seq (.seq (.reg false [⟨(some 5), .none, (.mov (.t 0)), 0, []⟩, ⟨(some 6), .none, (.lenS (.t 5)), 1, []⟩, ⟨(some 7), .none, (.bin .lss (.t 6) (.c (.int .i64 1))), 2, []⟩]) (.cond (.t 7) (.cond (.c (.tuple #[])) .skip .skip) .skip)) (.seq (.reg false [⟨(some 9), .none, (.mov (.t 0)), 0, []⟩, ⟨(some 10), .none, (.iadr 1 (.t 9) (.c (.int .i64 0))), 1, []⟩, ⟨(some 11), .none, (.load 1 false (.t 10)), 2, []⟩, ⟨(some 3), .none, (.mov (.t 11)), 3, []⟩]) (.seq (.seq (.reg false [⟨(some 4), .none, (.mov (.c (.int .i64 1))), 0, []⟩]) (.block 0 (.loop (.seq (.seq (.reg false [⟨(some 12), .none, (.mov (.t 4)), 0, []⟩, ⟨(some 13), .none, (.mov (.t 0)), 1, []⟩, ⟨(some 14), .none, (.lenS (.t 13)), 2, []⟩, ⟨(some 15), .none, (.bin .lss (.t 12) (.t 14)), 3, []⟩]) (.cond (.t 15) .skip (.exit 0))) (.seq (.block 1 (.reg false [⟨(some 18), .none, (.mov (.t 3)), 0, []⟩, ⟨(some 19), .none, (.mov (.t 0)), 1, []⟩, ⟨(some 20), .none, (.mov (.t 4)), 2, []⟩, ⟨(some 21), .none, (.iadr 1 (.t 19) (.t 20)), 3, []⟩, ⟨(some 22), .none, (.load 1 false (.t 21)), 4, []⟩, ⟨(some 23), .none, (.mx (.t 18) (.t 22)), 5, []⟩, ⟨(some 3), .none, (.mov (.t 23)), 6, []⟩])) (.reg false [⟨(some 16), .none, (.mov (.t 4)), 0, []⟩, ⟨(some 17), .none, (.bin .add (.t 16) (.c (.int .i64 1))), 1, []⟩, ⟨(some 4), .none, (.mov (.t 17)), 2, []⟩])))))) (.seq (.reg false [⟨(some 24), .none, (.mov (.t 3)), 0, []⟩, ⟨(some 2), .none, (.mov (.t 24)), 1, []⟩]) .ret))))), [(.t 2)]⟩
theorem k59 : EE.fns 59 = some c59 := by kernel_rfl
def c60 : CF := ⟨25, (.seq (.reg false [⟨(some 2), .none, (.mov (.c (.int .i64 0))), 0, []⟩]) (.seq (.seq (.reg false [⟨(some 5), .none, (.mov (.t 0)), 0, []⟩, ⟨(some 6), .none, (.lenS (.t 5)), 1, []⟩, ⟨(some 7), .none, (.bin .lss (.t 6) (.c (.int .i64 1))), 2, []⟩]) (.cond (.t 7) (.cond (.c (.tuple #[])) .skip .skip) .skip)) (.seq (.reg false [⟨(some 9), .none, (.mov (.t 0)), 0, []⟩, ⟨(some 10), .none, (.iadr 1 (.t 9) (.c (.int .i64 0))), 1, []⟩, ⟨(some 11), .none, (.load 1 false (.t 10)), 2, []⟩, ⟨(some 3), .none, (.mov (.t 11)), 3, []⟩]) (.seq (.seq (.reg false [⟨(some 4), .none, (.mov (.c (.int .i64 1))), 0, []⟩]) (.block 0 (.loop (.seq (.seq (.reg false [⟨(some 12), .none, (.mov (.t 4)), 0, []⟩, ⟨(some 13), .none, (.mov (.t 0)), 1, []⟩, ⟨(some 14), .none, (.lenS (.t 13)), 2, []⟩, ⟨(some 15), .none, (.bin .lss (.t 12) (.t 14)), 3, []⟩]) (.cond (.t 15) .skip (.exit 0))) (.seq (.block 1 (.reg false [⟨(some 18), .none, (.mov (.t 3)), 0, []⟩, ⟨(some 19), .none, (.mov (.t 0)), 1, []⟩, ⟨(some 20), .none, (.mov (.t 4)), 2, []⟩, ⟨(some 21), .none, (.iadr 1 (.t 19) (.t 20)), 3, []⟩, ⟨(some 22), .none, (.load 1 false (.t 21)), 4, []⟩, ⟨(some 23), .none, (.mn (.t 18) (.t 22)), 5, []⟩, ⟨(some 3), .none, (.mov (.t 23)), 6, []⟩])) (.reg false [⟨(some 16), .none, (.mov (.t 4)), 0, []⟩, ⟨(some 17), .none, (.bin .add (.t 16) (.c (.int .i64 1))), 1, []⟩, ⟨(some 4), .none, (.mov (.t 17)), 2, []⟩])))))) (.seq (.reg false [⟨(some 24), .none, (.mov (.t 3)), 0, []⟩, ⟨(some 2), .none, (.mov (.t 24)), 1, []⟩]) .ret))))), [(.t 2)]⟩
theorem k60 : EE.fns 60 = some c60 := by kernel_rfl
def c61 : CF := ⟨5, (.seq (.reg false [⟨(some 2), .none, (.mov (.c (.slice .none 0 0))), 0, []⟩]) (.seq (.reg false [⟨(some 3), .none, (.mov (.t 0)), 0, []⟩, ⟨(some 4), .none, (.app 1 8 (.c (.slice .none 0 0)) (.t 3)), 1, []⟩, ⟨(some 2), .none, (.mov (.t 4)), 2, []⟩]) .ret)), [(.t 2)]⟩
theorem k61 : EE.fns 61 = some c61 := by kernel_rfl
def c63 : CF := ⟨32, (.seq (.reg false [⟨(some 2), .none, (.mov (.c (.pointer .none))), 0, []⟩]) (.seq (.reg false [⟨(some 5), .none, (.mov (.t 0)), 0, []⟩, ⟨(some 6), .none, (.lenS (.t 5)), 1, []⟩, ⟨(some 7), .none, (.bin .add (.c (.int .i64 10101)) (.t 6)), 2, []⟩, ⟨(some 3), .none, (.mov (.t 7)), 3, []⟩]) (.seq (.seq (.reg false [⟨(some 4), .none, (.mov (.c (.int .i64 0))), 0, []⟩]) (.block 0 (.loop (.seq (.seq (.reg false [⟨(some 8), .none, (.mov (.t 4)), 0, []⟩, ⟨(some 9), .none, (.mov (.t 0)), 1, []⟩, ⟨(some 10), .none, (.lenS (.t 9)), 2, []⟩, ⟨(some 11), .none, (.bin .lss (.t 8) (.t 10)), 3, []⟩, ⟨(some 12), .none, (.mov (.t 11)), 4, []⟩, ⟨(some 13), (.some (12, true)), (.mov (.t 4)), 5, []⟩, ⟨(some 14), (.some (12, true)), (.bin .lss (.t 13) (.c (.int .i64 4000))), 6, []⟩, ⟨(some 15), .none, (.pick (.t 12) (.t 14) (.c (.bool false))), 7, []⟩]) (.cond (.t 15) .skip (.exit 0))) (.seq (.block 1 (.reg false [⟨(some 18), .none, (.mov (.t 3)), 0, []⟩, ⟨(some 19), .none, (.bin .mul (.t 18) (.c (.int .i64 131))), 1, []⟩, ⟨(some 20), .none, (.mov (.t 0)), 2, []⟩, ⟨(some 21), .none, (.mov (.t 4)), 3, []⟩, ⟨(some 22), .none, (.iadr 1 (.t 20) (.t 21)), 4, []⟩, ⟨(some 23), .none, (.load 1 false (.t 22)), 5, []⟩, ⟨(some 24), .none, (.toInt .i64 (.t 23)), 6, []⟩, ⟨(some 25), .none, (.bin .add (.t 19) (.t 24)), 7, []⟩, ⟨(some 26), .none, (.bin .add (.t 25) (.c (.int .i64 7))), 8, []⟩, ⟨(some 27), .none, (.bin .and (.t 26) (.c (.int .i64 1073741823))), 9, []⟩, ⟨(some 3), .none, (.mov (.t 27)), 10, []⟩])) (.reg false [⟨(some 16), .none, (.mov (.t 4)), 0, []⟩, ⟨(some 17), .none, (.bin .add (.t 16) (.c (.int .i64 1))), 1, []⟩, ⟨(some 4), .none, (.mov (.t 17)), 2, []⟩])))))) (.seq (.reg false [⟨(some 28), .none, (.mov (.t 0)), 0, []⟩, ⟨(some 29), .none, (.mov (.t 3)), 1, []⟩, ⟨(some 30), .none, (.build [(.slice .none 0 0), (.int .i64 0), (.int .i64 0)] [(0, (1, (.t 28))), (2, (1, (.t 29)))]), 2, []⟩, ⟨(some 31), .none, (.boxO (.t 30)), 3, []⟩, ⟨(some 2), .none, (.mov (.t 31)), 4, []⟩]) .ret)))), [(.t 2)]⟩
theorem k63 : EE.fns 63 = some c63 := by kernel_rfl
def c66 : CF := ⟨12, (.seq (.reg false [⟨(some 4), .none, (.mov (.c (.int .i64 0))), 0, []⟩]) (.seq (.reg false [⟨(some 5), .none, (.mov (.t 1)), 0, []⟩, ⟨(some 6), .none, (.mov (.t 0)), 1, []⟩, ⟨(some 7), .none, (.mov (.t 1)), 2, []⟩, ⟨(some 8), .none, (.lenS (.t 7)), 3, []⟩, ⟨(some 9), .none, (.call 67 [(.t 6), (.t 8)]), 4, []⟩, ⟨(some 10), .none, (.iadr 1 (.t 5) (.t 9)), 5, []⟩, ⟨(some 11), .none, (.load 1 false (.t 10)), 6, []⟩, ⟨(some 4), .none, (.mov (.t 11)), 7, []⟩]) .ret)), [(.t 4)]⟩
theorem k66 : EE.fns 66 = some c66 := by kernel_rfl
def c67 : CF := ⟨37, (.seq (.reg false [⟨(some 4), .none, (.mov (.c (.int .i64 0))), 0, []⟩]) (.seq (.seq (.reg false [⟨(some 9), .none, (.mov (.t 1)), 0, []⟩, ⟨(some 10), .none, (.bin .leq (.t 9) (.c (.int .i64 0))), 1, []⟩]) (.cond (.t 10) (.seq (.reg false [⟨(some 4), .none, (.mov (.c (.int .i64 0))), 0, []⟩]) .ret) .skip)) (.seq (.seq (.reg false [⟨(some 11), .none, (.mov (.t 1)), 0, []⟩, ⟨(some 12), .none, (.bin .leq (.t 11) (.c (.int .i64 256))), 1, []⟩]) (.cond (.t 12) (.seq (.reg false [⟨(some 13), .none, (.mov (.t 0)), 0, []⟩, ⟨(some 14), .none, (.call 70 [(.t 13)]), 1, []⟩, ⟨(some 15), .none, (.mov (.t 1)), 2, []⟩, ⟨(some 16), .none, (.bin .rem (.t 14) (.t 15)), 3, []⟩, ⟨(some 4), .none, (.mov (.t 16)), 4, []⟩]) .ret) .skip)) (.seq (.reg false [⟨(some 17), .none, (.mov (.t 0)), 0, []⟩, ⟨(some 18), .none, (.call 70 [(.t 17)]), 1, []⟩, ⟨(some 5), .none, (.mov (.t 18)), 2, []⟩]) (.seq (.reg false [⟨(some 19), .none, (.mov (.t 0)), 0, []⟩, ⟨(some 20), .none, (.call 70 [(.t 19)]), 1, []⟩, ⟨(some 6), .none, (.mov (.t 20)), 2, []⟩]) (.seq (.reg false [⟨(some 21), .none, (.mov (.t 0)), 0, []⟩, ⟨(some 22), .none, (.call 70 [(.t 21)]), 1, []⟩, ⟨(some 7), .none, (.mov (.t 22)), 2, []⟩]) (.seq (.reg false [⟨(some 23), .none, (.mov (.t 0)), 0, []⟩, ⟨(some 24), .none, (.call 70 [(.t 23)]), 1, []⟩, ⟨(some 8), .none, (.mov (.t 24)), 2, []⟩]) (.seq (.reg false [⟨(some 25), .none, (.mov (.t 5)), 0, []⟩, ⟨(some 26), .none, (.bin .mul (.t 25) (.c (.int .i64 16777216))), 1, []⟩, ⟨(some 27), .none, (.mov (.t 6)), 2, []⟩, ⟨(some 28), .none, (.bin .mul (.t 27) (.c (.int .i64 65536))), 3, []⟩, ⟨(some 29), .none, (.bin .add (.t 26) (.t 28)), 4, []⟩, ⟨(some 30), .none, (.mov (.t 7)), 5, []⟩, ⟨(some 31), .none, (.bin .mul (.t 30) (.c (.int .i64 256))), 6, []⟩, ⟨(some 32), .none, (.bin .add (.t 29) (.t 31)), 7, []⟩, ⟨(some 33), .none, (.mov (.t 8)), 8, []⟩, ⟨(some 34), .none, (.bin .add (.t 32) (.t 33)), 9, []⟩, ⟨(some 35), .none, (.mov (.t 1)), 10, []⟩, ⟨(some 36), .none, (.bin .rem (.t 34) (.t 35)), 11, []⟩, ⟨(some 4), .none, (.mov (.t 36)), 12, []⟩]) .ret)))))))), [(.t 4)]⟩
theorem k67 : EE.fns 67 = some c67 := by kernel_rfl
def c68 : CF := ⟨27, (.seq (.reg false [⟨(some 2), .none, (.mov (.c (.slice .none 0 0))), 0, []⟩]) (.seq (.reg false [⟨(some 5), .none, (.mkO 0 1 [(.int .i64 0)] []), 0, []⟩, ⟨(some 3), .none, (.mov (.t 5)), 1, []⟩]) (.seq (.seq (.reg false [⟨(some 6), .none, (.mov (.t 0)), 0, []⟩, ⟨(some 7), .none, (.call 67 [(.t 6), (.c (.int .i64 9))]), 1, []⟩, ⟨(some 4), .none, (.mov (.t 7)), 2, []⟩]) (.block 0 (.loop (.seq (.seq (.reg false [⟨(some 8), .none, (.mov (.t 4)), 0, []⟩, ⟨(some 9), .none, (.bin .gtr (.t 8) (.c (.int .i64 0))), 1, []⟩]) (.cond (.t 9) .skip (.exit 0))) (.seq (.block 1 (.reg false [⟨(some 12), .none, (.mov (.t 3)), 0, []⟩, ⟨(some 13), .none, (.mov (.t 0)), 1, []⟩, ⟨(some 14), .none, (.call 67 [(.t 13), (.c (.int .i64 30))]), 2, []⟩, ⟨(some 15), .none, (.bin .sub (.t 14) (.c (.int .i64 15))), 3, []⟩, ⟨(some 16), .none, (.mkV 1 1 [(.int .i64 0)] [(0, (.t 15))]), 4, []⟩, ⟨(some 17), .none, (.app 1 8 (.t 12) (.t 16)), 5, []⟩, ⟨(some 3), .none, (.mov (.t 17)), 6, []⟩])) (.reg false [⟨(some 10), .none, (.mov (.t 4)), 0, []⟩, ⟨(some 11), .none, (.bin .sub (.t 10) (.c (.int .i64 1))), 1, []⟩, ⟨(some 4), .none, (.mov (.t 11)), 2, []⟩])))))) (.seq (.seq (.reg false [⟨(some 18), .none, (.mov (.t 0)), 0, []⟩, ⟨(some 19), .none, (.call 69 [(.t 18), (.c (.int .i64 10))]), 1, []⟩]) (.cond (.t 19) (.reg false [⟨(some 20), .none, (.mov (.t 3)), 0, []⟩, ⟨(some 21), .none, (.mov (.t 0)), 1, []⟩, ⟨(some 22), .none, (.mkO 3 1 [(.int .i64 0)] [(0, (.c (.int .i64 1000))), (1, (.c (.int .i64 1001))), (2, (.c (.int .i64 (-1001))))]), 2, []⟩, ⟨(some 23), .none, (.call 66 [(.t 21), (.t 22)]), 3, []⟩, ⟨(some 24), .none, (.mkV 1 1 [(.int .i64 0)] [(0, (.t 23))]), 4, []⟩, ⟨(some 25), .none, (.app 1 8 (.t 20) (.t 24)), 5, []⟩, ⟨(some 3), .none, (.mov (.t 25)), 6, []⟩]) .skip)) (.seq (.reg false [⟨(some 26), .none, (.mov (.t 3)), 0, []⟩, ⟨(some 2), .none, (.mov (.t 26)), 1, []⟩]) .ret))))), [(.t 2)]⟩
theorem k68 : EE.fns 68 = some c68 := by kernel_rfl
def c69 : CF := ⟨9, (.seq (.reg false [⟨(some 4), .none, (.mov (.c (.bool false))), 0, []⟩]) (.seq (.reg false [⟨(some 5), .none, (.mov (.t 0)), 0, []⟩, ⟨(some 6), .none, (.mov (.t 1)), 1, []⟩, ⟨(some 7), .none, (.call 67 [(.t 5), (.t 6)]), 2, []⟩, ⟨(some 8), .none, (.bin .eql (.t 7) (.c (.int .i64 0))), 3, []⟩, ⟨(some 4), .none, (.mov (.t 8)), 4, []⟩]) .ret)), [(.t 4)]⟩
theorem k69 : EE.fns 69 = some c69 := by kernel_rfl
def c70 : CF := ⟨58, (.seq (.reg false [⟨(some 2), .none, (.mov (.c (.int .i64 0))), 0, []⟩]) (.seq (.reg false [⟨(some 4), .none, (.mov (.t 0)), 0, []⟩, ⟨(some 5), .none, (.mov (.t 0)), 1, []⟩, ⟨(some 6), .none, (.nilc (.t 5)), 2, []⟩, ⟨(some 7), .none, (.fadr 2 (.t 6)), 3, []⟩, ⟨(some 8), .none, (.load 1 false (.t 7)), 4, []⟩, ⟨(some 9), .none, (.bin .mul (.t 8) (.c (.int .i64 6364136223846793005))), 5, []⟩, ⟨(some 10), .none, (.bin .add (.t 9) (.c (.int .i64 1442695040888963407))), 6, []⟩, ⟨(some 11), .none, (.nilc (.t 4)), 7, []⟩, ⟨(some 12), .none, (.fadr 2 (.t 11)), 8, []⟩, ⟨.none, .none, (.store 1 (.t 12) (.t 10)), 9, []⟩]) (.seq (.reg true [⟨(some 13), .none, (.mov (.t 0)), 0, []⟩, ⟨(some 14), .none, (.nilc (.t 13)), 1, [0]⟩, ⟨(some 15), .none, (.fadr 2 (.t 14)), 2, [1, 0]⟩, ⟨(some 16), .none, (.load 1 false (.t 15)), 3, [2, 1, 0]⟩, ⟨(some 17), .none, (.bin .shr (.t 16) (.c (.int .u64 33))), 4, [3, 2, 1, 0]⟩, ⟨(some 18), .none, (.mov (.t 0)), 5, []⟩, ⟨(some 19), .none, (.nilc (.t 18)), 6, [5]⟩, ⟨(some 20), .none, (.fadr 2 (.t 19)), 7, [6, 5]⟩, ⟨(some 21), .none, (.load 1 false (.t 20)), 8, [7, 6, 5]⟩, ⟨(some 22), .none, (.bin .shr (.t 21) (.c (.int .u64 45))), 9, [8, 7, 6, 5]⟩, ⟨(some 23), .none, (.bin .xor (.t 17) (.t 22)), 10, [4, 3, 2, 1, 0, 9, 8, 7, 6, 5]⟩, ⟨(some 24), .none, (.bin .and (.t 23) (.c (.int .i64 255))), 11, [10, 4, 3, 2, 1, 0, 9, 8, 7, 6, 5]⟩, ⟨(some 3), .none, (.mov (.t 24)), 12, [11, 10, 4, 3, 2, 1, 0, 9, 8, 7, 6, 5]⟩]) (.seq (.seq (.reg true [⟨(some 25), .none, (.mov (.t 0)), 0, []⟩, ⟨(some 26), .none, (.nilc (.t 25)), 1, [0]⟩, ⟨(some 27), .none, (.fadr 1 (.t 26)), 2, [1, 0]⟩, ⟨(some 28), .none, (.load 1 false (.t 27)), 3, [2, 1, 0]⟩, ⟨(some 29), .none, (.mov (.t 0)), 4, []⟩, ⟨(some 30), .none, (.nilc (.t 29)), 5, [4]⟩, ⟨(some 31), .none, (.fadr 0 (.t 30)), 6, [5, 4]⟩, ⟨(some 32), .none, (.load 1 false (.t 31)), 7, [6, 5, 4]⟩, ⟨(some 33), .none, (.lenS (.t 32)), 8, [7, 6, 5, 4]⟩, ⟨(some 34), .none, (.bin .lss (.t 28) (.t 33)), 9, [3, 2, 1, 0, 8, 7, 6, 5, 4]⟩]) (.cond (.t 34) (.seq (.reg true [⟨(some 35), .none, (.mov (.t 3)), 0, []⟩, ⟨(some 36), .none, (.mov (.t 0)), 1, []⟩, ⟨(some 37), .none, (.nilc (.t 36)), 2, [1]⟩, ⟨(some 38), .none, (.fadr 0 (.t 37)), 3, [2, 1]⟩, ⟨(some 39), .none, (.load 1 false (.t 38)), 4, [3, 2, 1]⟩, ⟨(some 40), .none, (.mov (.t 0)), 5, []⟩, ⟨(some 41), .none, (.nilc (.t 40)), 6, [5]⟩, ⟨(some 42), .none, (.fadr 1 (.t 41)), 7, [6, 5]⟩, ⟨(some 43), .none, (.load 1 false (.t 42)), 8, [7, 6, 5]⟩, ⟨(some 44), .none, (.iadr 1 (.t 39) (.t 43)), 9, [4, 3, 2, 1, 8, 7, 6, 5]⟩, ⟨(some 45), .none, (.load 1 false (.t 44)), 10, [9, 4, 3, 2, 1, 8, 7, 6, 5]⟩, ⟨(some 46), .none, (.toInt .i64 (.t 45)), 11, [10, 9, 4, 3, 2, 1, 8, 7, 6, 5]⟩, ⟨(some 47), .none, (.bin .add (.t 35) (.t 46)), 12, [0, 11, 10, 9, 4, 3, 2, 1, 8, 7, 6, 5]⟩, ⟨(some 48), .none, (.bin .and (.t 47) (.c (.int .i64 255))), 13, [12, 0, 11, 10, 9, 4, 3, 2, 1, 8, 7, 6, 5]⟩, ⟨(some 3), .none, (.mov (.t 48)), 14, [13, 12, 0, 11, 10, 9, 4, 3, 2, 1, 8, 7, 6, 5]⟩]) (.reg false [⟨(some 49), .none, (.mov (.t 0)), 0, []⟩, ⟨(some 50), .none, (.mov (.t 0)), 1, []⟩, ⟨(some 51), .none, (.nilc (.t 50)), 2, []⟩, ⟨(some 52), .none, (.fadr 1 (.t 51)), 3, []⟩, ⟨(some 53), .none, (.load 1 false (.t 52)), 4, []⟩, ⟨(some 54), .none, (.bin .add (.t 53) (.c (.int .i64 1))), 5, []⟩, ⟨(some 55), .none, (.nilc (.t 49)), 6, []⟩, ⟨(some 56), .none, (.fadr 1 (.t 55)), 7, []⟩, ⟨.none, .none, (.store 1 (.t 56) (.t 54)), 8, []⟩])) .skip)) (.seq (.reg false [⟨(some 57), .none, (.mov (.t 3)), 0, []⟩, ⟨(some 2), .none, (.mov (.t 57)), 1, []⟩]) .ret))))), [(.t 2)]⟩
theorem k70 : EE.fns 70 = some c70 := by kernel_rfl
end Go.Proofs.Ytfkecldlhngjhaa.Ev

/- A row of tasks cut in two: what holds where the front ends, and what is left from there. -/
namespace Go.Proofs.Ytfkecldlhngjhaa.Ev
set_option linter.all false
open Go

section
variable {E : Env} {m : Md}
variable {s s1 s2 : St} {Q : Ex → St → Prop} {L L1 L2 : List Tk}
end
attribute [go_sem] List.drop_nil List.take_nil
end Go.Proofs.Ytfkecldlhngjhaa.Ev

/- Clocks: what right ones are; rows of numbers. -/
namespace Go.Proofs.Ytfkecldlhngjhaa.Ev
set_option linter.all false
open Go
set_option maxRecDepth 4000

abbrev SlI (H : Hp) (v : Value) (l : List Int) : Prop := Sl (En eI) 1 H v l
theorem Sl.int {H : Hp} {v : Value} {l : List Int} (h : SlI H v l) {i : Nat} {a : Int} (hi : l[i]? = some a) : ∃ id p o, H[id]? = some o ∧ o[p]? = some (.int .i64 a) ∧
    ∀ (s : St) (x y : X), exv s.ρ x = some v → exv s.ρ y = some (.int .i64 i) → iadrK s 1 x y = some (.val (.pointer (some ⟨id, p, some o.length⟩)), s) := by
  obtain ⟨id, p, o, ho, hr, hp, hia⟩ := h.elem hi
  unfold En at hr
  exact ⟨id, p, o, ho, by simpa [eI] using getElem?_of_take hr (j := 0) (by omega), hia⟩
def FreshS {α : Type} (enc : α → List Value) (esz : Nat) (H : Hp) (v : Value) (H' : Hp) (l : List α) : Prop := H <+: H' ∧ Sl (En enc) esz H' v l ∧ OwnS H.length v
theorem own_ge {N : Nat} {v : Value} (h : OwnS N v) : ∀ j ∈ idsOf v, N ≤ j := fun j hj => by
  rcases h with rfl | ⟨id, e, len, cap, rfl, hid⟩
  · simp [idsOf] at hj
  · simp [idsOf] at hj; omega
theorem own_notin {x N : Nat} {v : Value} (h : OwnS N v) (hx : x < N) : x ∉ idsOf v := fun hm => by have := own_ge h x hm; omega
theorem OwnS.mono {N N' : Nat} {v : Value} (h : OwnS N v) (hn : N' ≤ N) : OwnS N' v := by
  rcases h with h | ⟨id, e, ln, cap, h, hid⟩
  · exact .inl h
  · exact .inr ⟨id, e, ln, cap, h, by omega⟩
theorem own_newI {H : Hp} : SlI (H ++ [[]]) (.slice (some ⟨H.length, 0, some 1⟩) 0 (0 * 1)) [] := .inr ⟨H.length, 0, 0, [], rfl, by simp, by simp, by simp, by simp, fun i a hi => by simp at hi⟩
theorem Sl.oneI {m : Md} {N : Nat} {H : Hp} {v : Value} {l : List Int} (a : Int) (h : SlI H v l) (ho : OwnS N v) (hN : N ≤ H.length) (hw : ∀ id, N ≤ id → m.wr id = true) (hb : l.length ≤ 1048576) :
    ∃ v' H', (∀ (s : St) (x y : X), s.H = H → exv s.ρ x = some v → ex s.ρ y = .vs 1 [.int .i64 a] → appK m s 1 8 x y = some (.val v', { s with H := H' })) ∧ SlI H' v' (l ++ [a]) ∧ OwnS N v' ∧
      (∀ j, j < H.length → j ∉ idsOf v → H'[j]? = H[j]?) ∧ H.length ≤ H'.length ∧ (∀ j ∈ idsOf v', j ∈ idsOf v ∨ H.length ≤ j) ∧ ∀ H0 : Hp, H0.length ≤ N → H0 <+: H → H0 <+: H' := by
  obtain ⟨v', H', h1, h2⟩ := h.app (m := m) (n := 1) (bytes := 8) (l2 := [a]) (cs := [.int .i64 a]) ho hN hw (fun _ => rfl) (by simp) rfl (fun i b hi => by
    cases i with
    | zero => simp at hi; subst hi; rfl
    | succ i => simp at hi) (by unfold Ev.room; simp; omega) (by unfold Ev.room; simp; omega)
  exact ⟨v', H', fun s x y hH hx hy => h1 s x y hH hx (by rw [hy]; rfl), h2⟩

def inB (a b c : Int) : Bool := decide (a ≥ b) && decide (a ≤ c)
theorem inB_t {a b c : Int} : inB a b c = true ↔ b ≤ a ∧ a ≤ c := by simp [inB]
theorem f51 {H : Hp} {a b c : Int} : Scal EE 51 [.int .i64 a, .int .i64 b, .int .i64 c] H (.bool (inB a b c)) := by
  refine scal_ok rfl rfl k51 (by simp [c51]) rfl fun m hw => ?_
  unfold inB
  simp only [go_sem, ↓reduceIte, Nat.reduceEqDiff, reduceCtorEq, Nat.reduceAdd, Nat.reduceLeDiff, Nat.reduceMul, c51]
  refine brT.intro (fun q => ?_) (fun q => ?_) <;> simp only [go_sem, ↓reduceIte, Nat.reduceEqDiff, reduceCtorEq, Nat.reduceAdd, Nat.reduceLeDiff, Nat.reduceMul, q]
theorem c51' {m : Md} {draw : Bool} {s : St} {d : Option Nat} {ts : List Tk} {Q : Ex → St → Prop} {a b c : Int} (hw : Wr m s.H) :
    callT EE m draw 51 (some [.int .i64 a, .int .i64 b, .int .i64 c]) s d ts Q = go EE m ts { s with ρ := upd s.ρ d (.val (.bool (inB a b c))) } Q := callT_at f51 rfl hw
theorem f54 {H : Hp} {a b c : Int} : Scal EE 54 [.int .i64 a, .int .i64 b, .int .i64 c] H (.bool (inB a b c)) := by
  refine scal_ok rfl rfl k54 (by simp [c54]) rfl fun m hw => ?_
  unfold inB
  simp only [go_sem, ↓reduceIte, Nat.reduceEqDiff, reduceCtorEq, Nat.reduceAdd, Nat.reduceLeDiff, Nat.reduceMul, c54]
  refine brT.intro (fun q => ?_) (fun q => ?_) <;> simp only [go_sem, ↓reduceIte, Nat.reduceEqDiff, reduceCtorEq, Nat.reduceAdd, Nat.reduceLeDiff, Nat.reduceMul, q]
theorem c54' {m : Md} {draw : Bool} {s : St} {d : Option Nat} {ts : List Tk} {Q : Ex → St → Prop} {a b c : Int} (hw : Wr m s.H) :
    callT EE m draw 54 (some [.int .i64 a, .int .i64 b, .int .i64 c]) s d ts Q = go EE m ts { s with ρ := upd s.ρ d (.val (.bool (inB a b c))) } Q := callT_at f54 rfl hw
theorem f53 {H : Hp} {a : Int} : Scal EE 53 [.int .i64 a] H (.bool (inB a (-1000) 1000)) := by
  refine scal_ok rfl rfl k53 (by simp [c53]) rfl fun m hw => ?_
  simp only [go_sem, ↓reduceIte, Nat.reduceEqDiff, reduceCtorEq, Nat.reduceAdd, Nat.reduceLeDiff, Nat.reduceMul, c53, c54', hw]
theorem f56 {H : Hp} {a : Int} : Scal EE 56 [.int .i64 a] H (.bool (inB a 0 100000)) := by
  refine scal_ok rfl rfl k56 (by simp [c56]) rfl fun m hw => ?_
  simp only [go_sem, ↓reduceIte, Nat.reduceEqDiff, reduceCtorEq, Nat.reduceAdd, Nat.reduceLeDiff, Nat.reduceMul, c56, c54', hw]
theorem c56' {m : Md} {draw : Bool} {s : St} {d : Option Nat} {ts : List Tk} {Q : Ex → St → Prop} {a : Int} (hw : Wr m s.H) :
    callT EE m draw 56 (some [.int .i64 a]) s d ts Q = go EE m ts { s with ρ := upd s.ρ d (.val (.bool (inB a 0 100000))) } Q := callT_at f56 rfl hw

def pC (n : Int) : Bool := inB n (-1000) 1000
/-- Right ones. -/
def clOk (l : List Int) : Bool := l.all pC && decide (l.length ≤ 8)
theorem cl_t {l : List Int} : clOk l = true ↔ (∀ n ∈ l, -1000 ≤ n ∧ n ≤ 1000) ∧ l.length ≤ 8 := by
  simp [clOk, pC, inB_t]
theorem cl_no {l : List Int} (h : ¬ ((∀ n ∈ l, -1000 ≤ n ∧ n ≤ 1000) ∧ l.length ≤ 8)) : clOk l = false := by
  cases h2 : clOk l with
  | false => rfl
  | true => exact absurd (cl_t.1 h2) h
theorem f15 {H : Hp} {v : Value} {l : List Int} (hl : SlI H v l) : Scal EE 15 [v] H (.bool (clOk l)) := by
  refine scal_ok rfl rfl k15 (by simp [c15]) rfl fun m hw => ?_
  have hroom := hl.room
  simp only [go_sem, ↓reduceIte, Nat.reduceEqDiff, reduceCtorEq, Nat.reduceAdd, Nat.reduceLeDiff, Nat.reduceMul, c15, hl.len]
  cases q0 : decide ((l.length : Int) > 8) <;> simp only [go_sem, ↓reduceIte, Nat.reduceEqDiff, reduceCtorEq, Nat.reduceAdd, Nat.reduceLeDiff, Nat.reduceMul, q0]
  rotate_left
  · rw [cl_no (fun h => by have := h.2; have := of_decide_eq_true q0; omega)]
  have h8 : l.length ≤ 8 := by have := of_decide_eq_false q0; omega
  refine go_for l.length (fun i s => s.H = H ∧ s.ρ 0 = .val v ∧ s.ρ 3 = .val (.int .i64 i) ∧ (l.take i).all pC = true)
    (fun s => s.H = H ∧ l.all pC = true) (by simp [upd, ini]) ?_ ?_
  · rintro i s hi ⟨hH, k0, k3, hn⟩
    simp only [go_sem, ↓reduceIte, Nat.reduceEqDiff, reduceCtorEq, Nat.reduceAdd, Nat.reduceLeDiff, Nat.reduceMul, k0, k3, hl.len]
    cases c1 : decide ((i : Int) < (l.length : Int)) <;> simp only [go_sem, ↓reduceIte, Nat.reduceEqDiff, reduceCtorEq, Nat.reduceAdd, Nat.reduceLeDiff, Nat.reduceMul, k0, k3, c1]
    · have : i = l.length := by have := of_decide_eq_false c1; omega
      subst this
      rw [List.take_length] at hn
      exact ⟨hH, hn⟩
    have h4 : i < l.length := by have := of_decide_eq_true c1; omega
    obtain ⟨id, q, o, ho, hr, hia⟩ := hl.int (List.getElem?_eq_getElem h4)
    have w1 := wrap64 ((i : Int) + 1) (by omega) (by omega)
    have hp : inB l[i] (-1000) 1000 = pC l[i] := rfl
    simp only [go_sem, ↓reduceIte, Nat.reduceEqDiff, reduceCtorEq, Nat.reduceAdd, Nat.reduceLeDiff, Nat.reduceMul, k0, k3, hia, hH, ho, hr, c51', hw, hp]
    cases q1 : pC l[i] <;> simp only [go_sem, ↓reduceIte, Nat.reduceEqDiff, reduceCtorEq, Nat.reduceAdd, Nat.reduceLeDiff, Nat.reduceMul, k0, k3, q1, w1]
    · rw [show clOk l = false by
        have : l.all pC = false := List.all_eq_false.2 ⟨_, List.getElem_mem h4, by simp [q1]⟩
        simp [clOk, this]]
    · refine ⟨h4, by simp, ?_⟩
      rw [List.take_succ_eq_append_getElem h4, List.all_append, hn]
      simp [q1]
  · rintro s ⟨hH, hn⟩
    simp only [go_sem, ↓reduceIte, Nat.reduceEqDiff, reduceCtorEq, Nat.reduceAdd, Nat.reduceLeDiff, Nat.reduceMul, hH]
    simp [clOk, hn, h8]
theorem f52 {H : Hp} {v : Value} {l : List Int} {most : Nat} {k : Nat} {caps : Array Value} {p : Int → Bool} (hl : SlI H v l) (hk : ∀ n, Scal EE k ([.int .i64 n] ++ caps.toList) H (.bool (p n))) :
    Scal EE 52 [v, .int .i64 most, .func (.func k) #[] caps] H (.bool (l.all p && decide (l.length ≤ most))) := by
  refine scal_ok rfl rfl k52 (by simp [c52]) rfl fun m hw => ?_
  have hroom := hl.room
  simp only [go_sem, ↓reduceIte, Nat.reduceEqDiff, reduceCtorEq, Nat.reduceAdd, Nat.reduceLeDiff, Nat.reduceMul, c52, hl.len]
  refine go_for l.length (fun i s => s.H = H ∧ s.ρ 0 = .val v ∧ s.ρ 1 = .val (.int .i64 most) ∧ s.ρ 2 = .val (.func (.func k) #[] caps) ∧ s.ρ 9 = .val v ∧ s.ρ 10 = .val (.int .i64 l.length) ∧ s.ρ 11 = .val (.int .i64 i) ∧ (l.take i).all p = true)
    (fun s => s.H = H ∧ s.ρ 0 = .val v ∧ s.ρ 1 = .val (.int .i64 most) ∧ l.all p = true) (by simp [upd, ini]) ?_ ?_
  · rintro i s hi ⟨hH, h0, h1, h2, h9, h10, h11, hn⟩
    simp only [go_sem, ↓reduceIte, Nat.reduceEqDiff, reduceCtorEq, Nat.reduceAdd, Nat.reduceLeDiff, Nat.reduceMul, h0, h1, h2, h9, h10, h11]
    refine brT.intro (fun h3 => ?_) (fun h3 => ?_) <;> simp only [go_sem, ↓reduceIte, Nat.reduceEqDiff, reduceCtorEq, Nat.reduceAdd, Nat.reduceLeDiff, Nat.reduceMul, h0, h1, h2, h9, h10, h11]
    · have h4 : i < l.length := by simpa using h3
      have hgi := List.getElem?_eq_getElem h4
      obtain ⟨id, q, o, ho, hr, hia⟩ := hl.int hgi
      have ak := fun {m draw s d ts Q} => callT_at (m := m) (draw := draw) (s := s) (d := d) (ts := ts) (Q := Q) (hk l[i])
      simp only [List.singleton_append] at ak
      simp only [go_sem, ↓reduceIte, Nat.reduceEqDiff, reduceCtorEq, Nat.reduceAdd, Nat.reduceLeDiff, Nat.reduceMul, h0, h1, h2, h9, h10, h11, hia, hH, ho, hr, ak, hw]
      refine brT.intro (fun h5 => ?_) (fun h5 => ?_) <;> simp only [go_sem, ↓reduceIte, Nat.reduceEqDiff, reduceCtorEq, Nat.reduceAdd, Nat.reduceLeDiff, Nat.reduceMul, h0, h1, h2, h9, h10, h11, wrap64 ((i : Int) + 1) (by omega) (by omega)]
      · refine ⟨h4, by simp, ?_⟩
        rw [List.take_succ_eq_append_getElem h4, List.all_append, hn]
        simp [h5]
      · have : l.all p = false := List.all_eq_false.2 ⟨_, List.getElem_mem h4, by simp [h5]⟩
        simp [this]
    · have h4 : ¬ i < l.length := by simpa using h3
      rw [List.take_of_length_le (by omega)] at hn
      exact ⟨hH, hn⟩
  · rintro s ⟨hH, h0, h1, hn⟩
    simp only [go_sem, ↓reduceIte, Nat.reduceEqDiff, reduceCtorEq, Nat.reduceAdd, Nat.reduceLeDiff, Nat.reduceMul, h0, h1, hH, hl.len, hn]
    simp
theorem f17 {H : Hp} {v : Value} {l : List Int} (hl : SlI H v l) : Scal EE 17 [v] H (.bool (clOk l)) := by
  refine scal_ok rfl rfl k17 (by simp [c17]) rfl fun m hw => ?_
  have a52 := fun {m draw s d ts Q} => callT_at (m := m) (draw := draw) (s := s) (d := d) (ts := ts) (Q := Q) (f52 (k := 53) (most := 8) (caps := #[]) (p := pC) hl (fun n => f53))
  have e8 : ((8 : Nat) : Int) = 8 := rfl
  rw [e8] at a52
  simp only [go_sem, ↓reduceIte, Nat.reduceEqDiff, reduceCtorEq, Nat.reduceAdd, Nat.reduceLeDiff, Nat.reduceMul, c17, a52, hw]
  rfl
theorem f46 {H : Hp} {v u : Value} {l k : List Int} (hl : SlI H v l) (hk : SlI H u k) : Scal EE 46 [v, u] H (.bool (decide (l = k))) := by
  refine scal_ok rfl rfl k46 (by simp [c46]) rfl fun m hw => ?_
  have hroom := hl.room
  simp only [go_sem, ↓reduceIte, Nat.reduceEqDiff, reduceCtorEq, Nat.reduceAdd, Nat.reduceLeDiff, Nat.reduceMul, c46, hl.len, hk.len]
  refine brT.intro (fun h1 => ?_) (fun h1 => ?_) <;> simp only [go_sem, ↓reduceIte, Nat.reduceEqDiff, reduceCtorEq, Nat.reduceAdd, Nat.reduceLeDiff, Nat.reduceMul]
  · have hlen : l.length = k.length := by simp at h1; omega
    refine go_for l.length (fun i s => s.H = H ∧ s.ρ 0 = .val v ∧ s.ρ 1 = .val u ∧ s.ρ 5 = .val (.int .i64 i) ∧ l.take i = k.take i) (fun s => s.H = H ∧ l = k) (by simp [upd, ini]) ?_ ?_
    · rintro i s hi ⟨hH, h0, h1, h5, hn⟩
      simp only [go_sem, ↓reduceIte, Nat.reduceEqDiff, reduceCtorEq, Nat.reduceAdd, Nat.reduceLeDiff, Nat.reduceMul, h0, h1, h5, hl.len]
      refine brT.intro (fun h2 => ?_) (fun h2 => ?_) <;> simp only [go_sem, ↓reduceIte, Nat.reduceEqDiff, reduceCtorEq, Nat.reduceAdd, Nat.reduceLeDiff, Nat.reduceMul, h0, h1, h5]
      · have h3 : i < l.length := by simpa using h2
        have h4 : i < k.length := by omega
        obtain ⟨id, p, o, ho, hr, hia⟩ := hl.int (List.getElem?_eq_getElem h3)
        obtain ⟨id2, p2, o2, ho2, hr2, hia2⟩ := hk.int (List.getElem?_eq_getElem h4)
        refine go_draw ?_
        simp only [go_sem, ↓reduceIte, Nat.reduceEqDiff, reduceCtorEq, Nat.reduceAdd, Nat.reduceLeDiff, Nat.reduceMul, h0, h1, h5, hia, hH, ho, hr, hia2, ho2, hr2, hw]
        refine ⟨by rfl, brT.intro (fun h6 => ?_) (fun h6 => ?_)⟩ <;> simp only [go_sem, ↓reduceIte, Nat.reduceEqDiff, reduceCtorEq, Nat.reduceAdd, Nat.reduceLeDiff, Nat.reduceMul, h0, h1, h5, wrap64 ((i : Int) + 1) (by omega) (by omega)]
        · refine ⟨h3, by simp, ?_⟩
          rw [List.take_succ_eq_append_getElem h3, List.take_succ_eq_append_getElem h4, hn]
          have : l[i] = k[i] := of_decide_eq_true h6
          rw [this]
        · have : ¬ l[i] = k[i] := of_decide_eq_false h6
          have : ¬ l = k := fun e => by subst e; exact this rfl
          simp [this]
      · have h3 : ¬ i < l.length := by simpa using h2
        rw [List.take_of_length_le (by omega), List.take_of_length_le (by omega)] at hn
        exact ⟨hH, hn⟩
    · rintro s ⟨hH, hn⟩
      simp only [go_sem, ↓reduceIte, Nat.reduceEqDiff, reduceCtorEq, Nat.reduceAdd, Nat.reduceLeDiff, Nat.reduceMul, hH, hn]
  · have : ¬ l = k := fun e => by subst e; simp at h1
    simp [this]

theorem f61 {m : Md} {H : Hp} {v : Value} {l : List Int} (hl : SlI H v l) (hle : l.length ≤ 1048576) (hw : Wr m H) : Fun EE m 61 [v] H fun r H' => FreshS eI 1 H r H' l := by
  refine fun_f rfl rfl k61 (by simp [c61]) ?_
  obtain ⟨v', H', h1, h2, h3, h4⟩ := hl.copy (m := m) (bytes := 8) (by unfold room; omega) (by unfold room; omega)
  simp only [go_sem, ↓reduceIte, Nat.reduceEqDiff, reduceCtorEq, Nat.reduceAdd, Nat.reduceLeDiff, Nat.reduceMul, c61]
  rw [h1 _ _ _ rfl rfl rfl]
  simp only [go_sem, ↓reduceIte, Nat.reduceEqDiff, reduceCtorEq, Nat.reduceAdd, Nat.reduceLeDiff, Nat.reduceMul]
  exact ⟨h2, h3, h4⟩
end Go.Proofs.Ytfkecldlhngjhaa.Ev

/- Clocks: local time, spread. -/
namespace Go.Proofs.Ytfkecldlhngjhaa.Ev
set_option linter.all false
open Go
set_option maxRecDepth 4000

theorem cl_at {l : List Int} (h : clOk l = true) {i : Nat} (hi : i < l.length) : -1000 ≤ l[i] ∧ l[i] ≤ 1000 := (cl_t.1 h).1 _ (List.getElem_mem hi)
theorem cl_len {l : List Int} (h : clOk l = true) : l.length ≤ 8 := (cl_t.1 h).2
/-- May index i and time t stand? -/
def locB (c : List Int) (i t : Int) : Bool := clOk c && (decide (0 ≤ i) && (decide (i < c.length) && inB t 0 100000))
def locR (c : List Int) (i t : Int) : Int := if locB c i t = true then max 0 (t + c.getD i.toNat 0) else 0
theorem loc_no {c : List Int} {i t : Int} (h : locB c i t = false) : locR c i t = 0 := by unfold locR; rw [h]; rfl
theorem f24 {H : Hp} {v : Value} {l : List Int} {i t : Int} (hl : SlI H v l) : Scal EE 24 [v, .int .i64 i, .int .i64 t] H (.int .i64 (locR l i t)) := by
  refine scal_ok rfl rfl k24 (by simp [c24]) rfl fun m hw => ?_
  have hroom := hl.room
  have a15 := fun {m draw s d ts Q} => callT_at (m := m) (draw := draw) (s := s) (d := d) (ts := ts) (Q := Q) (f15 hl)
  simp only [go_sem, ↓reduceIte, Nat.reduceEqDiff, reduceCtorEq, Nat.reduceAdd, Nat.reduceLeDiff, Nat.reduceMul, c24, a15, hw, hl.len]
  cases q0 : clOk l <;> simp only [go_sem, ↓reduceIte, Nat.reduceEqDiff, reduceCtorEq, Nat.reduceAdd, Nat.reduceLeDiff, Nat.reduceMul, q0]
  · rw [loc_no (by simp [locB, q0])]
  have h8 := cl_len q0
  cases q1 : decide (i < 0) <;> simp only [go_sem, ↓reduceIte, Nat.reduceEqDiff, reduceCtorEq, Nat.reduceAdd, Nat.reduceLeDiff, Nat.reduceMul, q1, hl.len]
  rotate_left
  · rw [loc_no (by have := of_decide_eq_true q1; simp [locB]; omega)]
  cases q2 : decide (i ≥ (l.length : Int)) <;> simp only [go_sem, ↓reduceIte, Nat.reduceEqDiff, reduceCtorEq, Nat.reduceAdd, Nat.reduceLeDiff, Nat.reduceMul, q2, c51', hw]
  rotate_left
  · rw [loc_no (by have := of_decide_eq_true q2; simp [locB]; omega)]
  cases q3 : inB t 0 100000 <;> simp only [go_sem, ↓reduceIte, Nat.reduceEqDiff, reduceCtorEq, Nat.reduceAdd, Nat.reduceLeDiff, Nat.reduceMul, q3]
  · rw [loc_no (by simp [locB, q3])]
  have h0 := of_decide_eq_false q1
  have h1 := of_decide_eq_false q2
  obtain ⟨n, rfl⟩ : ∃ n : Nat, i = n := ⟨i.toNat, by omega⟩
  have hn : n < l.length := by omega
  obtain ⟨id, q, o, ho, hr, hia⟩ := hl.int (List.getElem?_eq_getElem hn)
  have hc := cl_at q0 hn
  have ht := inB_t.1 q3
  have hyes : locR l n t = max 0 (t + l[n]) := by
    unfold locR
    rw [if_pos (by simp [locB, q0, q3]; omega)]
    simp [hn]
  have wt := wrap64 (t + l[n]) (by omega) (by omega)
  simp only [go_sem, ↓reduceIte, Nat.reduceEqDiff, reduceCtorEq, Nat.reduceAdd, Nat.reduceLeDiff, Nat.reduceMul, hia, ho, hr, wt]
  cases q4 : decide (t + l[n] < 0) <;> simp only [go_sem, ↓reduceIte, Nat.reduceEqDiff, reduceCtorEq, Nat.reduceAdd, Nat.reduceLeDiff, Nat.reduceMul, q4, hia, ho, hr, wt]
  · rw [hyes, show max 0 (t + l[n]) = t + l[n] by have := of_decide_eq_false q4; omega]
  · rw [hyes, show max 0 (t + l[n]) = 0 by have := of_decide_eq_true q4; omega]
theorem f25 {H : Hp} {v : Value} {l : List Int} {i t : Int} (hl : SlI H v l) : Scal EE 25 [v, .int .i64 i, .int .i64 t] H (.int .i64 (locR l i t)) := by
  refine scal_ok rfl rfl k25 (by simp [c25]) rfl fun m hw => ?_
  have hroom := hl.room
  have a17 := fun {m draw s d ts Q} => callT_at (m := m) (draw := draw) (s := s) (d := d) (ts := ts) (Q := Q) (f17 hl)
  simp only [go_sem, ↓reduceIte, Nat.reduceEqDiff, reduceCtorEq, Nat.reduceAdd, Nat.reduceLeDiff, Nat.reduceMul, c25, a17, hw, hl.len]
  cases q0 : clOk l <;> simp only [go_sem, ↓reduceIte, Nat.reduceEqDiff, reduceCtorEq, Nat.reduceAdd, Nat.reduceLeDiff, Nat.reduceMul, q0, hl.len]
  · rw [loc_no (by simp [locB, q0])]
  have h8 := cl_len q0
  simp only [go_sem, ↓reduceIte, Nat.reduceEqDiff, reduceCtorEq, Nat.reduceAdd, Nat.reduceLeDiff, Nat.reduceMul, wrap64 ((l.length : Int) - 1) (by omega) (by omega), c54', hw]
  cases q1 : inB i 0 ((l.length : Int) - 1) <;> simp only [go_sem, ↓reduceIte, Nat.reduceEqDiff, reduceCtorEq, Nat.reduceAdd, Nat.reduceLeDiff, Nat.reduceMul, q1, c56', hw]
  · rw [loc_no (by
      cases q2 : locB l i t with
      | false => rfl
      | true =>
        simp [locB] at q2
        rw [inB_t.2 (by omega)] at q1
        cases q1)]
  cases q3 : inB t 0 100000 <;> simp only [go_sem, ↓reduceIte, Nat.reduceEqDiff, reduceCtorEq, Nat.reduceAdd, Nat.reduceLeDiff, Nat.reduceMul, q3]
  · rw [loc_no (by simp [locB, q3])]
  have hb := inB_t.1 q1
  obtain ⟨n, rfl⟩ : ∃ n : Nat, i = n := ⟨i.toNat, by omega⟩
  have hn : n < l.length := by omega
  obtain ⟨id, q, o, ho, hr, hia⟩ := hl.int (List.getElem?_eq_getElem hn)
  have hc := cl_at q0 hn
  have ht := inB_t.1 q3
  have hyes : locR l n t = max 0 (t + l[n]) := by
    unfold locR
    rw [if_pos (by simp [locB, q0, q3]; omega)]
    simp [hn]
  have wt := wrap64 (t + l[n]) (by omega) (by omega)
  simp only [go_sem, ↓reduceIte, Nat.reduceEqDiff, reduceCtorEq, Nat.reduceAdd, Nat.reduceLeDiff, Nat.reduceMul, hia, ho, hr, wt, mxK]
  rw [hyes, show max 0 (t + l[n]) = (if t + l[n] > 0 then t + l[n] else 0) by split <;> omega]

/-- The highest, the lowest of the first i. -/
def hiT (l : List Int) (i : Nat) : Int := (l.take i).foldl max (l.headD 0)
def loT (l : List Int) (i : Nat) : Int := (l.take i).foldl min (l.headD 0)
theorem hiT_succ {l : List Int} {i : Nat} (h : i < l.length) : hiT l (i + 1) = max (hiT l i) l[i] := by
  unfold hiT
  rw [List.take_succ_eq_append_getElem h, List.foldl_append]
  rfl
theorem loT_succ {l : List Int} {i : Nat} (h : i < l.length) : loT l (i + 1) = min (loT l i) l[i] := by
  unfold loT
  rw [List.take_succ_eq_append_getElem h, List.foldl_append]
  rfl
theorem hlT_b {l : List Int} (h : clOk l = true) : ∀ i, i ≤ l.length → -1000 ≤ hiT l i ∧ hiT l i ≤ 1000 ∧ -1000 ≤ loT l i ∧ loT l i ≤ 1000
  | 0, _ => by
    cases l with
    | nil => simp [hiT, loT]
    | cons a t =>
      have := cl_at h (i := 0) (by simp)
      simpa [hiT, loT, and_assoc] using ⟨this.1, this.2, this.1, this.2⟩
  | i + 1, hi => by
    have ih := hlT_b h i (by omega)
    have := cl_at h (i := i) (by omega)
    rw [hiT_succ (by omega), loT_succ (by omega)]
    omega
def sprR (l : List Int) : Int := if clOk l = true ∧ l ≠ [] then hiT l l.length - loT l l.length else 0
theorem f33 {H : Hp} {v : Value} {l : List Int} (hl : SlI H v l) : Scal EE 33 [v] H (.int .i64 (sprR l)) := by
  refine scal_ok rfl rfl k33 (by simp [c33]) rfl fun m hw => ?_
  have hroom := hl.room
  have a15 := fun {m draw s d ts Q} => callT_at (m := m) (draw := draw) (s := s) (d := d) (ts := ts) (Q := Q) (f15 hl)
  simp only [go_sem, ↓reduceIte, Nat.reduceEqDiff, reduceCtorEq, Nat.reduceAdd, Nat.reduceLeDiff, Nat.reduceMul, c33, a15, hw, hl.len]
  cases q0 : clOk l <;> simp only [go_sem, ↓reduceIte, Nat.reduceEqDiff, reduceCtorEq, Nat.reduceAdd, Nat.reduceLeDiff, Nat.reduceMul, q0, hl.len]
  · rw [show sprR l = 0 by simp [sprR, q0]]
  have h8 := cl_len q0
  cases q1 : decide ((l.length : Int) = 0) <;> simp only [go_sem, ↓reduceIte, Nat.reduceEqDiff, reduceCtorEq, Nat.reduceAdd, Nat.reduceLeDiff, Nat.reduceMul, q1]
  rotate_left
  · have : l = [] := List.eq_nil_of_length_eq_zero (by have := of_decide_eq_true q1; omega)
    rw [show sprR l = 0 by simp [sprR, this]]
  have hne : l ≠ [] := fun e => by subst e; simp at q1
  have hpos : 0 < l.length := List.length_pos_iff.2 hne
  obtain ⟨id, q, o, ho, hr, hia⟩ := hl.int (List.getElem?_eq_getElem hpos)
  have hia0 : ∀ (s : St) (x : X), exv s.ρ x = some v → iadrK s 1 x (.c (.int .i64 0)) = some (.val (.pointer (some ⟨id, q, some o.length⟩)), s) := fun s x hx => hia s x _ hx rfl
  have hh : l.headD 0 = l[0] := by cases l with | nil => cases hpos | cons a t => rfl
  simp only [go_sem, ↓reduceIte, Nat.reduceEqDiff, reduceCtorEq, Nat.reduceAdd, Nat.reduceLeDiff, Nat.reduceMul, hia0, ho, hr]
  refine go_for l.length (fun i s => s.H = H ∧ s.ρ 0 = .val v ∧ s.ρ 3 = .val (.int .i64 (loT l i)) ∧ s.ρ 4 = .val (.int .i64 (hiT l i)) ∧ s.ρ 5 = .val (.int .i64 i))
    (fun s => s.H = H ∧ s.ρ 3 = .val (.int .i64 (loT l l.length)) ∧ s.ρ 4 = .val (.int .i64 (hiT l l.length))) (by simp only [upd, ini, hiT, loT, ← hh]; simp [upd, ini]) ?_ ?_
  · rintro i s hi ⟨hH, k0, k3, k4, k5⟩
    simp only [go_sem, ↓reduceIte, Nat.reduceEqDiff, reduceCtorEq, Nat.reduceAdd, Nat.reduceLeDiff, Nat.reduceMul, k0, k3, k4, k5, hl.len]
    cases c1 : decide ((i : Int) < (l.length : Int)) <;> simp only [go_sem, ↓reduceIte, Nat.reduceEqDiff, reduceCtorEq, Nat.reduceAdd, Nat.reduceLeDiff, Nat.reduceMul, k0, k3, k4, k5, c1]
    · have : i = l.length := by have := of_decide_eq_false c1; omega
      subst this
      exact ⟨hH, by simp⟩
    have h4 : i < l.length := by have := of_decide_eq_true c1; omega
    obtain ⟨id, q, o, ho, hr, hia⟩ := hl.int (List.getElem?_eq_getElem h4)
    have w1 := wrap64 ((i : Int) + 1) (by omega) (by omega)
    simp only [go_sem, ↓reduceIte, Nat.reduceEqDiff, reduceCtorEq, Nat.reduceAdd, Nat.reduceLeDiff, Nat.reduceMul, k0, k3, k4, k5, hia, hH, ho, hr]
    cases q2 : decide (l[i] < loT l i) <;> simp only [go_sem, ↓reduceIte, Nat.reduceEqDiff, reduceCtorEq, Nat.reduceAdd, Nat.reduceLeDiff, Nat.reduceMul, k0, k3, k4, k5, hia, hH, ho, hr, q2]
    · cases q3 : decide (l[i] > hiT l i) <;> simp only [go_sem, ↓reduceIte, Nat.reduceEqDiff, reduceCtorEq, Nat.reduceAdd, Nat.reduceLeDiff, Nat.reduceMul, k0, k3, k4, k5, hia, hH, ho, hr, q3, w1]
      · refine ⟨h4, ?_⟩
        rw [hiT_succ h4, loT_succ h4, show max (hiT l i) l[i] = hiT l i by have := of_decide_eq_false q3; omega, show min (loT l i) l[i] = loT l i by have := of_decide_eq_false q2; omega]
        simp
      · refine ⟨h4, ?_⟩
        rw [hiT_succ h4, loT_succ h4, show max (hiT l i) l[i] = l[i] by have := of_decide_eq_true q3; omega, show min (loT l i) l[i] = loT l i by have := of_decide_eq_false q2; omega]
        simp
    · cases q3 : decide (l[i] > hiT l i) <;> simp only [go_sem, ↓reduceIte, Nat.reduceEqDiff, reduceCtorEq, Nat.reduceAdd, Nat.reduceLeDiff, Nat.reduceMul, k0, k3, k4, k5, hia, hH, ho, hr, q3, w1]
      · refine ⟨h4, ?_⟩
        rw [hiT_succ h4, loT_succ h4, show max (hiT l i) l[i] = hiT l i by have := of_decide_eq_false q3; omega, show min (loT l i) l[i] = l[i] by have := of_decide_eq_true q2; omega]
        simp
      · refine ⟨h4, ?_⟩
        rw [hiT_succ h4, loT_succ h4, show max (hiT l i) l[i] = l[i] by have := of_decide_eq_true q3; omega, show min (loT l i) l[i] = l[i] by have := of_decide_eq_true q2; omega]
        simp
  · rintro s ⟨hH, k3, k4⟩
    have hb := hlT_b q0 l.length (Nat.le_refl _)
    simp only [go_sem, ↓reduceIte, Nat.reduceEqDiff, reduceCtorEq, Nat.reduceAdd, Nat.reduceLeDiff, Nat.reduceMul, k3, k4, hH, wrap64 (hiT l l.length - loT l l.length) (by omega) (by omega)]
    rw [show sprR l = hiT l l.length - loT l l.length by unfold sprR; rw [if_pos ⟨q0, hne⟩]]
theorem hiT_one {l : List Int} (h : 0 < l.length) : hiT l 1 = l[0] := by
  cases l with
  | nil => cases h
  | cons a t => simp [hiT]
theorem loT_one {l : List Int} (h : 0 < l.length) : loT l 1 = l[0] := by
  cases l with
  | nil => cases h
  | cons a t => simp [loT]
theorem f59 {H : Hp} {v : Value} {l : List Int} (hl : SlI H v l) (hpos : 0 < l.length) : Scal EE 59 [v] H (.int .i64 (hiT l l.length)) := by
  refine scal_ok rfl rfl k59 (by simp [c59]) rfl fun m hw => ?_
  have hroom := hl.room
  have q1 : decide ((l.length : Int) < 1) = false := decide_eq_false (by omega)
  obtain ⟨id, q, o, ho, hr, hia⟩ := hl.int (List.getElem?_eq_getElem hpos)
  have hia0 : ∀ (s : St) (x : X), exv s.ρ x = some v → iadrK s 1 x (.c (.int .i64 0)) = some (.val (.pointer (some ⟨id, q, some o.length⟩)), s) := fun s x hx => hia s x _ hx rfl
  simp only [go_sem, ↓reduceIte, Nat.reduceEqDiff, reduceCtorEq, Nat.reduceAdd, Nat.reduceLeDiff, Nat.reduceMul, c59, hl.len, q1, hia0, ho, hr]
  refine go_for l.length (fun i s => s.H = H ∧ s.ρ 0 = .val v ∧ s.ρ 3 = .val (.int .i64 (hiT l (i + 1))) ∧ s.ρ 4 = .val (.int .i64 ((i + 1 : Nat) : Int)) ∧ i < l.length)
    (fun s => s.H = H ∧ s.ρ 3 = .val (.int .i64 (hiT l l.length))) (by simp [upd, ini, hiT_one hpos, hpos]) ?_ ?_
  · rintro i s hi ⟨hH, k0, k3, k4, hil⟩
    simp only [go_sem, ↓reduceIte, Nat.reduceEqDiff, reduceCtorEq, Nat.reduceAdd, Nat.reduceLeDiff, Nat.reduceMul, k0, k3, k4, hl.len]
    cases c1 : decide (((i + 1 : Nat) : Int) < (l.length : Int)) <;> simp only [go_sem, ↓reduceIte, Nat.reduceEqDiff, reduceCtorEq, Nat.reduceAdd, Nat.reduceLeDiff, Nat.reduceMul, k0, k3, k4, c1]
    · have : i + 1 = l.length := by have := of_decide_eq_false c1; omega
      rw [this]
      exact ⟨hH, by simp⟩
    have h4 : i + 1 < l.length := by have := of_decide_eq_true c1; omega
    obtain ⟨id, q, o, ho, hr, hia⟩ := hl.int (List.getElem?_eq_getElem h4)
    have w1 : IntKind.i64.wrap (((i + 1 : Nat) : Int) + 1) = ((i + 1 + 1 : Nat) : Int) := by rw [wrap64 _ (by omega) (by omega)]; omega
    simp only [go_sem, ↓reduceIte, Nat.reduceEqDiff, reduceCtorEq, Nat.reduceAdd, Nat.reduceLeDiff, Nat.reduceMul, k0, k3, k4, hia, hH, ho, hr, w1, mxK]
    refine ⟨hil, ?_⟩
    rw [hiT_succ h4, show max (hiT l (i + 1)) l[i + 1] = (if l[i + 1] > hiT l (i + 1) then l[i + 1] else hiT l (i + 1)) by split <;> omega]
    simp [h4]
  · rintro s ⟨hH, k3⟩
    simp only [go_sem, ↓reduceIte, Nat.reduceEqDiff, reduceCtorEq, Nat.reduceAdd, Nat.reduceLeDiff, Nat.reduceMul, k3, hH]
theorem f60 {H : Hp} {v : Value} {l : List Int} (hl : SlI H v l) (hpos : 0 < l.length) : Scal EE 60 [v] H (.int .i64 (loT l l.length)) := by
  refine scal_ok rfl rfl k60 (by simp [c60]) rfl fun m hw => ?_
  have hroom := hl.room
  have q1 : decide ((l.length : Int) < 1) = false := decide_eq_false (by omega)
  obtain ⟨id, q, o, ho, hr, hia⟩ := hl.int (List.getElem?_eq_getElem hpos)
  have hia0 : ∀ (s : St) (x : X), exv s.ρ x = some v → iadrK s 1 x (.c (.int .i64 0)) = some (.val (.pointer (some ⟨id, q, some o.length⟩)), s) := fun s x hx => hia s x _ hx rfl
  simp only [go_sem, ↓reduceIte, Nat.reduceEqDiff, reduceCtorEq, Nat.reduceAdd, Nat.reduceLeDiff, Nat.reduceMul, c60, hl.len, q1, hia0, ho, hr]
  refine go_for l.length (fun i s => s.H = H ∧ s.ρ 0 = .val v ∧ s.ρ 3 = .val (.int .i64 (loT l (i + 1))) ∧ s.ρ 4 = .val (.int .i64 ((i + 1 : Nat) : Int)) ∧ i < l.length)
    (fun s => s.H = H ∧ s.ρ 3 = .val (.int .i64 (loT l l.length))) (by simp [upd, ini, loT_one hpos, hpos]) ?_ ?_
  · rintro i s hi ⟨hH, k0, k3, k4, hil⟩
    simp only [go_sem, ↓reduceIte, Nat.reduceEqDiff, reduceCtorEq, Nat.reduceAdd, Nat.reduceLeDiff, Nat.reduceMul, k0, k3, k4, hl.len]
    cases c1 : decide (((i + 1 : Nat) : Int) < (l.length : Int)) <;> simp only [go_sem, ↓reduceIte, Nat.reduceEqDiff, reduceCtorEq, Nat.reduceAdd, Nat.reduceLeDiff, Nat.reduceMul, k0, k3, k4, c1]
    · have : i + 1 = l.length := by have := of_decide_eq_false c1; omega
      rw [this]
      exact ⟨hH, by simp⟩
    have h4 : i + 1 < l.length := by have := of_decide_eq_true c1; omega
    obtain ⟨id, q, o, ho, hr, hia⟩ := hl.int (List.getElem?_eq_getElem h4)
    have w1 : IntKind.i64.wrap (((i + 1 : Nat) : Int) + 1) = ((i + 1 + 1 : Nat) : Int) := by rw [wrap64 _ (by omega) (by omega)]; omega
    simp only [go_sem, ↓reduceIte, Nat.reduceEqDiff, reduceCtorEq, Nat.reduceAdd, Nat.reduceLeDiff, Nat.reduceMul, k0, k3, k4, hia, hH, ho, hr, w1, mnK]
    refine ⟨hil, ?_⟩
    rw [loT_succ h4, show min (loT l (i + 1)) l[i + 1] = (if l[i + 1] < loT l (i + 1) then l[i + 1] else loT l (i + 1)) by split <;> omega]
    simp [h4]
  · rintro s ⟨hH, k3⟩
    simp only [go_sem, ↓reduceIte, Nat.reduceEqDiff, reduceCtorEq, Nat.reduceAdd, Nat.reduceLeDiff, Nat.reduceMul, k3, hH]
theorem f34 {H : Hp} {v : Value} {l : List Int} (hl : SlI H v l) : Scal EE 34 [v] H (.int .i64 (sprR l)) := by
  refine scal_ok rfl rfl k34 (by simp [c34]) rfl fun m hw => ?_
  have hroom := hl.room
  have a17 := fun {m draw s d ts Q} => callT_at (m := m) (draw := draw) (s := s) (d := d) (ts := ts) (Q := Q) (f17 hl)
  simp only [go_sem, ↓reduceIte, Nat.reduceEqDiff, reduceCtorEq, Nat.reduceAdd, Nat.reduceLeDiff, Nat.reduceMul, c34, a17, hw, hl.len]
  cases q0 : clOk l <;> simp only [go_sem, ↓reduceIte, Nat.reduceEqDiff, reduceCtorEq, Nat.reduceAdd, Nat.reduceLeDiff, Nat.reduceMul, q0, hl.len]
  · rw [show sprR l = 0 by simp [sprR, q0]]
  cases q1 : decide ((l.length : Int) = 0) <;> simp only [go_sem, ↓reduceIte, Nat.reduceEqDiff, reduceCtorEq, Nat.reduceAdd, Nat.reduceLeDiff, Nat.reduceMul, q1]
  rotate_left
  · have : l = [] := List.eq_nil_of_length_eq_zero (by have := of_decide_eq_true q1; omega)
    rw [show sprR l = 0 by simp [sprR, this]]
  have hne : l ≠ [] := fun e => by subst e; simp at q1
  have hpos : 0 < l.length := List.length_pos_iff.2 hne
  have hb := hlT_b q0 l.length (Nat.le_refl _)
  have a59 := fun {m draw s d ts Q} => callT_at (m := m) (draw := draw) (s := s) (d := d) (ts := ts) (Q := Q) (f59 hl hpos)
  have a60 := fun {m draw s d ts Q} => callT_at (m := m) (draw := draw) (s := s) (d := d) (ts := ts) (Q := Q) (f60 hl hpos)
  simp only [go_sem, ↓reduceIte, Nat.reduceEqDiff, reduceCtorEq, Nat.reduceAdd, Nat.reduceLeDiff, Nat.reduceMul, a59, a60, hw, wrap64 (hiT l l.length - loT l l.length) (by omega) (by omega)]
  rw [show sprR l = hiT l l.length - loT l l.length by unfold sprR; rw [if_pos ⟨q0, hne⟩]]
end Go.Proofs.Ytfkecldlhngjhaa.Ev

/- Clocks: slewing, both ways. -/
namespace Go.Proofs.Ytfkecldlhngjhaa.Ev
set_option linter.all false
open Go
set_option maxRecDepth 4000

def slw (c most : Int) : Int := if c > most then c - most else if -c > most then c + most else 0
def slwL (l : List Int) (i most : Int) : List Int := if clOk l = true then (if 0 ≤ i ∧ i < l.length ∧ 0 ≤ most then l.set i.toNat (slw (l.getD i.toNat 0) most) else l) else []
theorem slwL_no {l : List Int} {i most : Int} (h : clOk l = false) : slwL l i most = [] := by unfold slwL; rw [h]; rfl
theorem slwL_same {l : List Int} {i most : Int} (h : clOk l = true) (h2 : ¬ (0 ≤ i ∧ i < l.length ∧ 0 ≤ most)) : slwL l i most = l := by unfold slwL; rw [if_pos h, if_neg h2]
theorem slwL_at {l : List Int} {n : Nat} {most : Int} (h : clOk l = true) (hn : n < l.length) (h2 : 0 ≤ most) : slwL l n most = l.set n (slw l[n] most) := by
  unfold slwL
  rw [if_pos h, if_pos ⟨by omega, by omega, h2⟩]
  simp [hn]
theorem f35 {m : Md} {H : Hp} {v : Value} {l : List Int} {i most : Int} (hl : SlI H v l) (hm : most ≤ 9223372036854775807) (hw : Wr m H) : Fun EE m 35 [v, .int .i64 i, .int .i64 most] H fun r H' => FreshS eI 1 H r H' (slwL l i most) := by
  refine fun_f rfl rfl k35 (by simp [c35]) ?_
  have hroom := hl.room
  have p0 : H <+: H ++ [[]] := List.prefix_append _ _
  have s0 := own_newI (H := H)
  have o0 : OwnS H.length (.slice (some ⟨H.length, 0, some 1⟩) 0 (0 * 1)) := .inr ⟨_, _, _, _, rfl, Nat.le_refl _⟩
  generalize hwv : Value.slice (some ⟨H.length, 0, some 1⟩) 0 (0 * 1) = wv0 at s0 o0
  have a15 := fun {m draw s d ts Q} => callT_at (m := m) (draw := draw) (s := s) (d := d) (ts := ts) (Q := Q) (f15 hl)
  simp only [go_sem, ↓reduceIte, Nat.reduceEqDiff, reduceCtorEq, Nat.reduceAdd, Nat.reduceLeDiff, Nat.reduceMul, c35, a15, hw]
  cases q0 : clOk l <;> simp only [go_sem, ↓reduceIte, Nat.reduceEqDiff, reduceCtorEq, Nat.reduceAdd, Nat.reduceLeDiff, Nat.reduceMul, q0, fillL, hwv]
  · rw [slwL_no q0]
    exact ⟨p0, s0, o0⟩
  have h8 := cl_len q0
  obtain ⟨w, H1, a1, a2, a3, a4, a5, a6, a7⟩ := s0.join (m := m) (N := H.length) (bytes := 8) (hl.pre p0) (fun _ => rfl) (by omega) o0 p0.length_le hw (by unfold Ev.room; simp; omega) (by unfold Ev.room; simp; omega)
  rw [List.nil_append] at a2
  have p1 : H <+: H1 := a7 H (Nat.le_refl _) p0
  have l1 := hl.pre p1
  rw [a1]
  rotate_left
  · rfl
  · rfl
  · rfl
  simp only [go_sem, ↓reduceIte, Nat.reduceEqDiff, reduceCtorEq, Nat.reduceAdd, Nat.reduceLeDiff, Nat.reduceMul, l1.len]
  have hsame : ¬ (0 ≤ i ∧ i < l.length ∧ 0 ≤ most) → FreshS eI 1 H w H1 (slwL l i most) := fun h => by
    rw [slwL_same q0 h]; exact ⟨p1, a2, a3⟩
  cases q1 : decide (i < 0) <;> simp only [go_sem, ↓reduceIte, Nat.reduceEqDiff, reduceCtorEq, Nat.reduceAdd, Nat.reduceLeDiff, Nat.reduceMul, q1, l1.len]
  rotate_left
  · exact hsame fun h => by have := of_decide_eq_true q1; omega
  cases q2 : decide (i ≥ (l.length : Int)) <;> simp only [go_sem, ↓reduceIte, Nat.reduceEqDiff, reduceCtorEq, Nat.reduceAdd, Nat.reduceLeDiff, Nat.reduceMul, q2]
  rotate_left
  · exact hsame fun h => by have := of_decide_eq_true q2; omega
  cases q3 : decide (most < 0) <;> simp only [go_sem, ↓reduceIte, Nat.reduceEqDiff, reduceCtorEq, Nat.reduceAdd, Nat.reduceLeDiff, Nat.reduceMul, q3]
  rotate_left
  · exact hsame fun h => by have := of_decide_eq_true q3; omega
  have h0 := of_decide_eq_false q1
  have h1 := of_decide_eq_false q2
  have h2 := of_decide_eq_false q3
  obtain ⟨n, rfl⟩ : ∃ n : Nat, i = n := ⟨i.toNat, by omega⟩
  have hn : n < l.length := by omega
  have hc := cl_at q0 hn
  rw [slwL_at q0 hn (by omega)]
  obtain ⟨id, q, o, ho, hr, hia⟩ := l1.int (List.getElem?_eq_getElem hn)
  obtain ⟨jd, p, o2, ho2, hp2, hid, hia2, hst⟩ := a2.store hn
  have hjd : H.length ≤ jd := own_ge a3 jd (by rw [hid]; simp)
  have hwj := hw jd hjd
  have hfin : ∀ x : Int, x = slw l[n] most → FreshS eI 1 H w (H1.set jd (spl o2 p [.int .i64 x])) (l.set n (slw l[n] most)) := fun x hx => by
    subst hx
    exact ⟨pre_set p1 hjd, hst _ _ rfl rfl, a3⟩
  have wneg := wrap64 (-l[n]) (by omega) (by omega)
  have wz : IntKind.i64.wrap (0 - l[n]) = -l[n] := by rw [Int.zero_sub]; exact wneg
  simp only [go_sem, ↓reduceIte, Nat.reduceEqDiff, reduceCtorEq, Nat.reduceAdd, Nat.reduceLeDiff, Nat.reduceMul, hia, ho, hr]
  cases q4 : decide (l[n] > most) <;> simp only [go_sem, ↓reduceIte, Nat.reduceEqDiff, reduceCtorEq, Nat.reduceAdd, Nat.reduceLeDiff, Nat.reduceMul, q4, hia, ho, hr, hia2, ho2, hp2, hwj, wneg, wz]
  rotate_left
  · have q4' := of_decide_eq_true q4
    have ws := wrap64 (l[n] - most) (by omega) (by omega)
    simp only [go_sem, ↓reduceIte, Nat.reduceEqDiff, reduceCtorEq, Nat.reduceAdd, Nat.reduceLeDiff, Nat.reduceMul, hia, ho, hr, hia2, ho2, hp2, hwj, ws]
    exact hfin _ (by unfold slw; rw [if_pos q4'])
  have q4' := of_decide_eq_false q4
  cases q5 : decide (-l[n] > most) <;> simp only [go_sem, ↓reduceIte, Nat.reduceEqDiff, reduceCtorEq, Nat.reduceAdd, Nat.reduceLeDiff, Nat.reduceMul, q5, hia, ho, hr, hia2, ho2, hp2, hwj]
  · have q5' := of_decide_eq_false q5
    exact hfin _ (by unfold slw; rw [if_neg q4', if_neg q5'])
  · have q5' := of_decide_eq_true q5
    have ws := wrap64 (l[n] + most) (by omega) (by omega)
    simp only [go_sem, ↓reduceIte, Nat.reduceEqDiff, reduceCtorEq, Nat.reduceAdd, Nat.reduceLeDiff, Nat.reduceMul, hia, ho, hr, hia2, ho2, hp2, hwj, ws]
    exact hfin _ (by unfold slw; rw [if_neg q4', if_pos q5'])
theorem f36 {m : Md} {H : Hp} {v : Value} {l : List Int} {i most : Int} (hl : SlI H v l) (hm : most ≤ 9223372036854775807) (hw : Wr m H) : Fun EE m 36 [v, .int .i64 i, .int .i64 most] H fun r H' => FreshS eI 1 H r H' (slwL l i most) := by
  refine fun_f rfl rfl k36 (by simp [c36]) ?_
  have hroom := hl.room
  have a17 := fun {m draw s d ts Q} => callT_at (m := m) (draw := draw) (s := s) (d := d) (ts := ts) (Q := Q) (f17 hl)
  simp only [go_sem, ↓reduceIte, Nat.reduceEqDiff, reduceCtorEq, Nat.reduceAdd, Nat.reduceLeDiff, Nat.reduceMul, c36, a17, hw]
  cases q0 : clOk l <;> simp only [go_sem, ↓reduceIte, Nat.reduceEqDiff, reduceCtorEq, Nat.reduceAdd, Nat.reduceLeDiff, Nat.reduceMul, q0]
  · rw [slwL_no q0]
    exact ⟨List.prefix_refl _, .inl ⟨rfl, rfl⟩, .inl rfl⟩
  have h8 := cl_len q0
  refine callT_to (fun m' h => f61 hl (by omega) h) rfl hw fun w H1 ⟨p1, a2, a3⟩ => ?_
  have p1 : H <+: H1 := p1
  have a3 : OwnS H.length w := a3
  have l1 := hl.pre p1
  have hw1 := hw.pre p1
  have hwm := wrap64 ((l.length : Int) - 1) (by omega) (by omega)
  simp only [go_sem, ↓reduceIte, Nat.reduceEqDiff, reduceCtorEq, Nat.reduceAdd, Nat.reduceLeDiff, Nat.reduceMul, l1.len, hwm, c54', hw1]
  have hsame : ¬ (0 ≤ i ∧ i < l.length ∧ 0 ≤ most) → FreshS eI 1 H w H1 (slwL l i most) := fun h => by
    rw [slwL_same q0 h]; exact ⟨p1, a2, a3⟩
  cases q1 : inB i 0 ((l.length : Int) - 1) <;> simp only [go_sem, ↓reduceIte, Nat.reduceEqDiff, reduceCtorEq, Nat.reduceAdd, Nat.reduceLeDiff, Nat.reduceMul, q1]
  · exact hsame fun h => by rw [inB_t.2 (by omega)] at q1; cases q1
  cases q3 : decide (most < 0) <;> simp only [go_sem, ↓reduceIte, Nat.reduceEqDiff, reduceCtorEq, Nat.reduceAdd, Nat.reduceLeDiff, Nat.reduceMul, q3]
  rotate_left
  · exact hsame fun h => by have := of_decide_eq_true q3; omega
  have hb := inB_t.1 q1
  have h2 := of_decide_eq_false q3
  obtain ⟨n, rfl⟩ : ∃ n : Nat, i = n := ⟨i.toNat, by omega⟩
  have hn : n < l.length := by omega
  have hc := cl_at q0 hn
  rw [slwL_at q0 hn (by omega)]
  obtain ⟨jd, p, o2, ho2, hp2, hid, hre, hia2, hst⟩ := a2.both hn
  unfold En at hre
  have hr : o2[p]? = some (.int .i64 l[n]) := by simpa [eI] using getElem?_of_take hre (j := 0) (by omega)
  have hjd : H.length ≤ jd := own_ge a3 jd (by rw [hid]; simp)
  have hwj := hw jd hjd
  have hfin : ∀ x : Int, x = slw l[n] most → FreshS eI 1 H w (H1.set jd (spl o2 p [.int .i64 x])) (l.set n (slw l[n] most)) := fun x hx => by
    subst hx
    exact ⟨pre_set p1 hjd, hst _ _ rfl rfl, a3⟩
  have wneg := wrap64 (-l[n]) (by omega) (by omega)
  have wz : IntKind.i64.wrap (0 - l[n]) = -l[n] := by rw [Int.zero_sub]; exact wneg
  simp only [go_sem, ↓reduceIte, Nat.reduceEqDiff, reduceCtorEq, Nat.reduceAdd, Nat.reduceLeDiff, Nat.reduceMul, hia2, ho2, hr]
  cases q4 : decide (l[n] > most) <;> simp only [go_sem, ↓reduceIte, Nat.reduceEqDiff, reduceCtorEq, Nat.reduceAdd, Nat.reduceLeDiff, Nat.reduceMul, q4, hia2, ho2, hp2, hr, hwj, wneg, wz]
  rotate_left
  · have q4' := of_decide_eq_true q4
    have ws := wrap64 (l[n] - most) (by omega) (by omega)
    simp only [go_sem, ↓reduceIte, Nat.reduceEqDiff, reduceCtorEq, Nat.reduceAdd, Nat.reduceLeDiff, Nat.reduceMul, hia2, ho2, hp2, hr, hwj, ws]
    exact hfin _ (by unfold slw; rw [if_pos q4'])
  have q4' := of_decide_eq_false q4
  cases q5 : decide (-l[n] > most) <;> simp only [go_sem, ↓reduceIte, Nat.reduceEqDiff, reduceCtorEq, Nat.reduceAdd, Nat.reduceLeDiff, Nat.reduceMul, q5, hia2, ho2, hp2, hr, hwj]
  · have q5' := of_decide_eq_false q5
    exact hfin _ (by unfold slw; rw [if_neg q4', if_neg q5'])
  · have q5' := of_decide_eq_true q5
    have ws := wrap64 (l[n] + most) (by omega) (by omega)
    simp only [go_sem, ↓reduceIte, Nat.reduceEqDiff, reduceCtorEq, Nat.reduceAdd, Nat.reduceLeDiff, Nat.reduceMul, hia2, ho2, hp2, hr, hwj, ws]
    exact hfin _ (by unfold slw; rw [if_neg q4', if_pos q5'])
end Go.Proofs.Ytfkecldlhngjhaa.Ev
