/- Texts of this proof, laid one behind the other: what each shows stands at its head. -/
import Derived.Test.YtjepmnmakemfoaaB2
import Derived.ChangeSame
import Derived.ChangeShapes
import Derived.WideShapes
import Derived.Carry
import Derived.Sort.Grow
import Derived.Test.YtjepmnmakemfoaaProg
import Derived.Test.YtjepmnmakemfoaaRows
/- Slices as lists; functions that leave memory as it is. -/
namespace Go.Proofs.Ytjepmnmakemfoaa.Ev
set_option linter.all false
open Go

section
variable {E : Env} {m : Md}

theorem Fun.det {f : Nat} {vs : List Value} {H : Hp} {P Q : Value → Hp → Prop} (h : Fun E m f vs H P) (k : Fun E m f vs H Q) : Fun E m f vs H fun r H' => P r H' ∧ Q r H' := by
  obtain ⟨k1, r1, H1, h1, h2⟩ := h
  obtain ⟨k2, r2, H2, h3, h4⟩ := k
  have e1 := evF_mono k2 h1
  have e2 := evF_mono k1 h3
  rw [Nat.add_comm] at e2
  rw [e1] at e2
  cases e2
  exact ⟨k1, r1, H1, h1, h2, h4⟩

/-- A function that answers this and leaves memory as it is, however it is called. -/
def Scal (E : Env) (f : Nat) (vs : List Value) (H : Hp) (r : Value) : Prop := ∀ m : Md, (∀ id, H.length ≤ id → m.wr id = true) → Fun E m f vs H fun r' H' => r' = r ∧ H' = H

theorem callT_scal {f : Nat} {vs : List Value} {H : Hp} {r : Value} (h : Scal E f vs H r) {draw : Bool} {s : St} {d : Option Nat} {ts : List Tk} {Q : Ex → St → Prop} (hH : s.H = H) (hw : ∀ id, H.length ≤ id → m.wr id = true) :
    callT E m draw f (some vs) s d ts Q = go E m ts { s with ρ := upd s.ρ d (.val r) } Q := by
  subst hH
  have hm := h (if draw then m.drawn E.pw s.H f vs else m) (fun id hid => by
    cases draw with
    | false => exact hw id hid
    | true => simp only [if_true, Md.drawn]; simp [hid])
  unfold callT opt
  simp only
  refine propext ⟨fun hf => ?_, fun hg => hm.mono fun r' H' ⟨e1, e2⟩ => by subst e1; subst e2; exact hg⟩
  obtain ⟨_, _, _, _, ⟨e1, e2⟩, h2⟩ := hm.det hf
  subst e1; subst e2
  exact h2

/-- New rows may be written. -/
def Wr (m : Md) (H : Hp) : Prop := ∀ id, H.length ≤ id → m.wr id = true

theorem callT_at {f : Nat} {vs : List Value} {H : Hp} {r : Value} (h : Scal E f vs H r) {draw : Bool} {s : St} {d : Option Nat} {ts : List Tk} {Q : Ex → St → Prop} (hH : s.H = H) (hw : Wr m H) :
    callT E m draw f (some vs) s d ts Q = go E m ts { s with ρ := upd s.ρ d (.val r) } Q := callT_scal h hH hw

theorem callT_to {f : Nat} {vs : List Value} {H : Hp} {P : Value → Hp → Prop} {draw : Bool} {s : St} {d : Option Nat} {ts : List Tk} {Q : Ex → St → Prop} (h : ∀ m' : Md, Wr m' H → Fun E m' f vs H P) (hH : s.H = H) (hw : Wr m H)
    (hq : ∀ r H', P r H' → go E m ts { s with H := H', ρ := upd s.ρ d (.val r) } Q) : callT E m draw f (some vs) s d ts Q := by
  subst hH
  exact callT_ok (fun m' _ h2 _ _ => h m' h2) hw hq

theorem Wr.pre {H H' : Hp} (h : Wr m H) (hp : H <+: H') : Wr m H' := fun id hid => h id (Nat.le_trans hp.length_le hid)

theorem Scal.fun {f : Nat} {vs : List Value} {H : Hp} {r : Value} (h : Scal E f vs H r) (hw : ∀ id, H.length ≤ id → m.wr id = true) {Q : Value → Hp → Prop} (hq : Q r H) : Fun E m f vs H Q :=
  (h m hw).mono fun _ _ ⟨e1, e2⟩ => by subst e1; subst e2; exact hq

/-- A slice that stands for a list; what an element's cells must be is told by R. -/
def Sl {α : Type} (R : α → List Value → Prop) (esz : Nat) (H : Hp) (v : Value) (l : List α) : Prop :=
  (v = .slice none 0 0 ∧ l = []) ∨ ∃ id off cap o, v = .slice (some ⟨id, off, some esz⟩) l.length cap ∧ H[id]? = some o ∧ off + cap = o.length ∧ l.length * esz ≤ cap ∧ l.length ≤ 9223372036854775807 ∧
    ∀ i a, l[i]? = some a → R a ((o.drop (off + i * esz)).take esz)

/-- Elements of plain cells. -/
def En {α : Type} (enc : α → List Value) (a : α) (cs : List Value) : Prop := cs = enc a

def eI (n : Int) : List Value := [.int .i64 n]

theorem getElem?_of_take {o : List Value} {a n j : Nat} {cs : List Value} (h : (o.drop a).take n = cs) (hj : j < n) : o[a + j]? = cs[j]? := by
  subst h
  rw [List.getElem?_take, if_pos hj, List.getElem?_drop]

section
variable {α : Type} {R : α → List Value → Prop} {esz : Nat} {H : Hp} {v : Value} {l : List α}

theorem Sl.len (h : Sl R esz H v l) {s : St} {x : X} (hx : exv s.ρ x = some v) : lenSK s x = some (.val (.int .i64 l.length), s) := by
  unfold lenSK
  rw [hx]
  rcases h with ⟨rfl, rfl⟩ | ⟨id, off, cap, o, rfl, _⟩ <;> rfl

theorem Sl.room (h : Sl R esz H v l) : l.length ≤ 9223372036854775807 := by
  rcases h with ⟨rfl, rfl⟩ | ⟨id, off, cap, o, rfl, ho, hc, hn, hrm, hr⟩
  · simp
  · exact hrm

theorem Sl.elem (h : Sl R esz H v l) {i : Nat} {a : α} (hi : l[i]? = some a) : ∃ id p o, H[id]? = some o ∧ R a ((o.drop p).take esz) ∧ p + esz ≤ o.length ∧
    ∀ (s : St) (x y : X), exv s.ρ x = some v → exv s.ρ y = some (.int .i64 i) → iadrK s esz x y = some (.val (.pointer (some ⟨id, p, some o.length⟩)), s) := by
  have hl := (List.getElem?_eq_some_iff.1 hi).1
  rcases h with ⟨rfl, rfl⟩ | ⟨id, off, cap, o, rfl, ho, hc, hn, hrm, hr⟩
  · simp at hi
  · have hm : (i + 1) * esz ≤ l.length * esz := Nat.mul_le_mul_right _ (by omega)
    rw [Nat.succ_mul] at hm
    refine ⟨id, off + i * esz, o, ho, hr i a hi, by omega, fun s x y hx hy => ?_⟩
    unfold iadrK
    rw [hx, hy]
    simp only [Int.toNat_natCast, hc]
    rw [if_pos ⟨trivial, by omega, by omega⟩]

theorem Sl.take (h : Sl R esz H v l) {i : Nat} (hi : i ≤ l.length) : ∃ v', Sl R esz H v' (l.take i) ∧
    ∀ (s : St) (x y : X), exv s.ρ x = some v → exv s.ρ y = some (.int .i64 i) → slcK s esz x none (some y) = some (.val v', s) := by
  rcases h with ⟨rfl, rfl⟩ | ⟨id, off, cap, o, rfl, ho, hc, hn, hrm, hr⟩
  · simp at hi
    subst hi
    refine ⟨.slice none 0 0, .inl ⟨rfl, by simp⟩, fun s x y hx hy => ?_⟩
    simp only [slcK, bnd, hx, hy]
    rfl
  · have hm : i * esz ≤ l.length * esz := Nat.mul_le_mul_right _ hi
    refine ⟨.slice (some ⟨id, off, some esz⟩) i cap, .inr ⟨id, off, cap, o, by rw [List.length_take, Nat.min_eq_left hi], ho, hc, by rw [List.length_take, Nat.min_eq_left hi]; omega, by rw [List.length_take]; omega, fun j a hj => ?_⟩, fun s x y hx hy => ?_⟩
    · rw [List.getElem?_take] at hj
      split at hj
      · exact hr j a hj
      · cases hj
    · simp only [slcK, bnd, hx, hy]
      rw [if_pos ⟨trivial, by omega, by omega, .inl (by omega), by simp⟩]
      simp [St.val]

/-- What stays as long as its rows stay. -/
theorem Sl.frame {R' : α → List Value → Prop} {H' : Hp} (h : Sl R esz H v l) (hr : ∀ a ∈ l, ∀ cs, R a cs → R' a cs) (hH : ∀ id off e len cap, v = .slice (some ⟨id, off, e⟩) len cap → H'[id]? = H[id]?) : Sl R' esz H' v l := by
  rcases h with ⟨rfl, rfl⟩ | ⟨id, off, cap, o, rfl, ho, hc, hn, hrm, hr2⟩
  · exact .inl ⟨rfl, rfl⟩
  · exact .inr ⟨id, off, cap, o, rfl, by rw [hH _ _ _ _ _ rfl]; exact ho, hc, hn, hrm, fun i a hi => hr a (List.mem_of_getElem? hi) _ (hr2 i a hi)⟩

end

/-- How a function ends. -/
def retT (v : Option Value) (tr : Bool) (H H' : Hp) (Q : Value → Hp → Prop) : Prop :=
  match v with
  | some v => (tr = true → flatScal v = true) ∧ Q v (if tr = true then H'.take H.length else H')
  | none => False

theorem post_ret {f : Nat} {res : List RV} {H : Hp} {Q : Value → Hp → Prop} {s : St} : FunPost E f res H Q .ret s = retT (resT s res) (E.tr f) H s.H Q := by
  unfold FunPost opt retT
  simp only
  cases resT s res with
  | none => rfl
  | some v => cases E.tr f <;> simp
theorem post_normal {f : Nat} {res : List RV} {H : Hp} {Q : Value → Hp → Prop} {s : St} : FunPost E f res H Q .normal s = retT (resT s res) (E.tr f) H s.H Q := by
  rw [← post_ret]; rfl
theorem retT_true {v : Value} {H H' : Hp} {Q : Value → Hp → Prop} : retT (some v) true H H' Q = (flatScal v = true ∧ Q v (H'.take H.length)) := by simp [retT]
theorem retT_false {v : Value} {H H' : Hp} {Q : Value → Hp → Prop} : retT (some v) false H H' Q = Q v H' := by simp [retT]
theorem flat_bool (b : Bool) : flatScal (.bool b) = true := rfl
theorem flat_int (k : IntKind) (n : Int) : flatScal (.int k n) = true := rfl
theorem flat_str (n : ByteArray) : flatScal (.string n) = true := rfl

/-- How a function's code is to end. -/
def Post (res : List RV) (tr : Bool) (H : Hp) (Q : Value → Hp → Prop) (e : Ex) (s : St) : Prop :=
  match e with
  | .exit _ => False
  | _ => retT (resT s res) tr H s.H Q
theorem Post_ret {res : List RV} {tr : Bool} {H : Hp} {Q : Value → Hp → Prop} {s : St} : Post res tr H Q .ret s = retT (resT s res) tr H s.H Q := rfl
theorem Post_normal {res : List RV} {tr : Bool} {H : Hp} {Q : Value → Hp → Prop} {s : St} : Post res tr H Q .normal s = retT (resT s res) tr H s.H Q := rfl
def PostS (res : List RV) (H : Hp) (r : Value) (e : Ex) (s : St) : Prop :=
  match e with
  | .exit _ => False
  | _ => resT s res = some r ∧ s.H.take H.length = H
theorem PostS_ret {res : List RV} {H : Hp} {r : Value} {s : St} : PostS res H r .ret s = (resT s res = some r ∧ s.H.take H.length = H) := rfl
theorem PostS_normal {res : List RV} {H : Hp} {r : Value} {s : St} : PostS res H r .normal s = (resT s res = some r ∧ s.H.take H.length = H) := rfl

theorem fun_ok {f : Nat} {cf : CF} {vs : List Value} {H : Hp} {Q : Value → Hp → Prop} {tr : Bool} (ht : E.tr f = tr) (hp : E.prim f = none) (hf : E.fns f = some cf) (hl : vs.length ≤ cf.nt)
    (h : go E { m with nr := m.nr || tr } [.c cf.body] { ρ := ini vs, gn := 0, H := H } (Post cf.res tr H Q)) : Fun E m f vs H Q := by
  subst ht
  refine Fun.intro hp hf hl ((go_run h).mono fun e s' h' => ?_)
  cases e with
  | normal => rw [post_normal]; exact h'
  | exit j => exact h'
  | ret => rw [post_ret]; exact h'

theorem fun_f {f : Nat} {cf : CF} {vs : List Value} {H : Hp} {Q : Value → Hp → Prop} (ht : E.tr f = false) (hp : E.prim f = none) (hf : E.fns f = some cf) (hl : vs.length ≤ cf.nt)
    (h : go E m [.c cf.body] { ρ := ini vs, gn := 0, H := H } (Post cf.res false H Q)) : Fun E m f vs H Q :=
  fun_ok ht hp hf hl (by rw [Bool.or_false]; exact h)

theorem scal_ok {f : Nat} {cf : CF} {vs : List Value} {H : Hp} {r : Value} (ht : E.tr f = true) (hp : E.prim f = none) (hf : E.fns f = some cf) (hl : vs.length ≤ cf.nt) (hr : flatScal r = true)
    (h : ∀ m : Md, Wr m H → go E m [.c cf.body] { ρ := ini vs, gn := 0, H := H } (PostS cf.res H r)) : Scal E f vs H r := by
  intro m hw
  refine Fun.intro hp hf hl ((go_run (h { m with nr := m.nr || E.tr f } hw)).mono fun e s' h' => ?_)
  cases e with
  | normal => rw [post_normal, h'.1, ht, retT_true]; exact ⟨hr, rfl, h'.2⟩
  | exit j => exact h'
  | ret => rw [post_ret, h'.1, ht, retT_true]; exact ⟨hr, rfl, h'.2⟩

/-- A loop that counts up. -/
theorem go_for {s : St} {Q : Ex → St → Prop} {ts : List Tk} {b : Nat} {c : CC} (N : Nat) (I : Nat → St → Prop) (P : St → Prop) (h0 : I 0 s)
    (step : ∀ i s, i ≤ N → I i s → go E m [.c c] s fun e s' => match e with
      | .normal => i < N ∧ I (i + 1) s'
      | .exit j => j = b ∧ P s'
      | .ret => Q .ret s')
    (hp : ∀ s, P s → go E m ts s Q) : go E m (.c (.loop c) :: .blk b :: ts) s Q := by
  refine go_loop (fun n s => ∃ i, n = N - i ∧ i ≤ N ∧ I i s) P N ⟨0, by simp, by simp, h0⟩ (fun n s h => ?_) hp
  obtain ⟨i, rfl, hi, hI⟩ := h
  refine go_mono (step i s hi hI) fun e s' h => ?_
  cases e with
  | normal => exact ⟨N - (i + 1), by omega, i + 1, rfl, by omega, h.2⟩
  | exit j => exact h
  | ret => exact h

theorem spl_nil (o : List Value) (i : Nat) : spl o i [] = o := rfl
theorem spl_z : ∀ (cs : List Value) (x : Value) (xs : List Value) (c : Value), spl (x :: xs) 0 (c :: cs) = c :: spl xs 0 cs := by
  have h : ∀ (cs : List Value) (x : Value) (xs : List Value) (i : Nat), spl (x :: xs) (i + 1) cs = x :: spl xs i cs := by
    intro cs
    induction cs with
    | nil => intros; rfl
    | cons c cs ih => intro x xs i; rw [spl, spl, List.set_cons_succ, ih]
  intro cs x xs c
  rw [spl, List.set_cons_zero, h]
theorem spl_s (cs : List Value) : ∀ (x : Value) (xs : List Value) (i : Nat), spl (x :: xs) (i + 1) cs = x :: spl xs i cs := by
  induction cs with
  | nil => intros; rfl
  | cons c cs ih => intro x xs i; rw [spl, spl, List.set_cons_succ, ih]
section
variable (cs : List Value) (x : Value) (xs : List Value)
theorem spl_1 : spl (x :: xs) 1 cs = x :: spl xs 0 cs := spl_s cs x xs 0
theorem spl_2 : spl (x :: xs) 2 cs = x :: spl xs 1 cs := spl_s cs x xs 1
theorem spl_3 : spl (x :: xs) 3 cs = x :: spl xs 2 cs := spl_s cs x xs 2
theorem spl_4 : spl (x :: xs) 4 cs = x :: spl xs 3 cs := spl_s cs x xs 3
theorem spl_5 : spl (x :: xs) 5 cs = x :: spl xs 4 cs := spl_s cs x xs 4
theorem spl_6 : spl (x :: xs) 6 cs = x :: spl xs 5 cs := spl_s cs x xs 5
theorem spl_7 : spl (x :: xs) 7 cs = x :: spl xs 6 cs := spl_s cs x xs 6
theorem spl_8 : spl (x :: xs) 8 cs = x :: spl xs 7 cs := spl_s cs x xs 7
end
theorem zeros_0 (z : List Value) : zeros 0 z = [] := rfl
theorem zeros_1 (z : List Value) : zeros 1 z = z := by simp [zeros]
theorem zeros_2 (z : List Value) : zeros 2 z = z ++ z := by simp [zeros, List.replicate_succ]
theorem zeros_3 (z : List Value) : zeros 3 z = z ++ (z ++ z) := by simp [zeros, List.replicate_succ]
theorem zeros_4 (z : List Value) : zeros 4 z = z ++ (z ++ (z ++ z)) := by simp [zeros, List.replicate_succ]
theorem vc_agg (cs : Array Value) : vc (.agg cs) = some cs.toList := rfl
theorem vc_int (k : IntKind) (n : Int) : vc (.int k n) = some [.int k n] := rfl
theorem vc_bool (b : Bool) : vc (.bool b) = some [.bool b] := rfl
theorem vc_str (b : ByteArray) : vc (.string b) = some [.string b] := rfl
theorem vc_ptr (p : Option Addr) : vc (.pointer p) = some [.pointer p] := rfl
theorem vc_sl (a : Option Addr) (l c : Nat) : vc (.slice a l c) = some [.slice a l c] := rfl
theorem vc_fn (f : Fn) (a c : Array Value) : vc (.func f a c) = some [.func f a c] := rfl
theorem Sl.vc {α : Type} {R : α → List Value → Prop} {esz : Nat} {H : Hp} {v : Value} {l : List α} (h : Sl R esz H v l) : vc v = some [v] := by
  rcases h with ⟨rfl, _⟩ | ⟨_, _, _, _, rfl, _⟩ <;> rfl
theorem scal_int (k : IntKind) (n : Int) : scal (.int k n) = true := rfl
theorem scal_bool (b : Bool) : scal (.bool b) = true := rfl
theorem scal_str (b : ByteArray) : scal (.string b) = true := rfl
theorem scal_nil : scal (.slice none 0 0) = true := rfl

theorem wrap64 (n : Int) (h0 : -9223372036854775808 ≤ n) (h1 : n < 9223372036854775808) : IntKind.i64.wrap n = n := by
  simp [IntKind.wrap, IntKind.bits, IntKind.signed]
  omega

end
end Go.Proofs.Ytjepmnmakemfoaa.Ev

/- Slices that are one's own: writing into them, growing them. -/
namespace Go.Proofs.Ytjepmnmakemfoaa.Ev
set_option linter.all false
open Go

/-- A slice with a row of its own, from N on, from the row's start. -/
def OwnS (N : Nat) (v : Value) : Prop := v = .slice none 0 0 ∨ ∃ id e len cap, v = .slice (some ⟨id, 0, some e⟩) len cap ∧ N ≤ id

theorem take_drop_get (o : List Value) (p n j : Nat) : ((o.drop p).take n)[j]? = if j < n then o[p + j]? else none := by
  rw [List.getElem?_take]
  split <;> simp [List.getElem?_drop]

theorem spl_same {o cs : List Value} {p : Nat} (h : p + cs.length ≤ o.length) : ((spl o p cs).drop p).take cs.length = cs := by
  refine List.ext_getElem? fun j => ?_
  rw [take_drop_get]
  by_cases hj : j < cs.length
  · rw [if_pos hj, spl_get, if_pos (by omega), if_pos (by omega), show p + j - p = j by omega]
  · rw [if_neg hj, List.getElem?_eq_none (by omega)]

theorem spl_other {o cs : List Value} {p q n : Nat} (h : q + n ≤ p ∨ p + cs.length ≤ q) : ((spl o p cs).drop q).take n = (o.drop q).take n := by
  refine List.ext_getElem? fun j => ?_
  rw [take_drop_get, take_drop_get]
  by_cases hj : j < n
  · rw [if_pos hj, if_pos hj, spl_get, if_neg (by omega)]
  · rw [if_neg hj, if_neg hj]

theorem pre_set {H0 H : Hp} {id : Nat} {r : List Value} (h : H0 <+: H) (hid : H0.length ≤ id) : H0 <+: H.set id r := by
  obtain ⟨t, rfl⟩ := h
  exact ⟨t.set (id - H0.length) r, by rw [List.set_append_right _ _ hid]⟩

theorem pre_push {H0 H : Hp} {r : List Value} (h : H0 <+: H) : H0 <+: H ++ [r] := by
  obtain ⟨t, rfl⟩ := h
  exact ⟨t ++ [r], by simp⟩

theorem pre_get {H0 H : Hp} (h : H0 <+: H) {id : Nat} (hid : id < H0.length) : H[id]? = H0[id]? := by
  obtain ⟨t, rfl⟩ := h
  rw [List.getElem?_append_left hid]

section
variable {α : Type} {R : α → List Value → Prop} {esz : Nat} {H : Hp} {v : Value} {l : List α}

/-- What a slice says of older rows stays. -/
theorem Sl.pre {H' : Hp} (h : Sl R esz H v l) (hp : H <+: H') : Sl R esz H' v l := by
  rcases h with ⟨rfl, rfl⟩ | ⟨id, off, cap, o, rfl, ho, hc, hn, hrm, hr⟩
  · exact .inl ⟨rfl, rfl⟩
  · exact .inr ⟨id, off, cap, o, rfl, by rw [pre_get hp (List.getElem?_eq_some_iff.1 ho).1]; exact ho, hc, hn, hrm, hr⟩

theorem Sl.ids (h : Sl R esz H v l) : ∀ id ∈ idsOf v, id < H.length := by
  rcases h with ⟨rfl, rfl⟩ | ⟨id, off, cap, o, rfl, ho, _⟩
  · simp [idsOf]
  · simp only [idsOf, List.mem_singleton]
    rintro _ rfl
    exact (List.getElem?_eq_some_iff.1 ho).1

theorem Sl.other {r : List Value} {id : Nat} (h : Sl R esz H v l) (hid : id ∉ idsOf v) : Sl R esz (H.set id r) v l := by
  rcases h with ⟨rfl, rfl⟩ | ⟨id', off, cap, o, rfl, ho, hc, hn, hrm, hr⟩
  · exact .inl ⟨rfl, rfl⟩
  · simp only [idsOf, List.mem_singleton] at hid
    exact .inr ⟨id', off, cap, o, rfl, by rw [List.getElem?_set_ne (by omega)]; exact ho, hc, hn, hrm, hr⟩

/-- Writing an element. -/
theorem Sl.store (h : Sl R esz H v l) {i : Nat} (hi : i < l.length) : ∃ id p o, H[id]? = some o ∧ p + esz ≤ o.length ∧ idsOf v = [id] ∧
    (∀ (s : St) (x y : X), exv s.ρ x = some v → exv s.ρ y = some (.int .i64 i) → iadrK s esz x y = some (.val (.pointer (some ⟨id, p, some o.length⟩)), s)) ∧
    ∀ a cs, cs.length = esz → R a cs → Sl R esz (H.set id (spl o p cs)) v (l.set i a) := by
  rcases h with ⟨rfl, rfl⟩ | ⟨id, off, cap, o, rfl, ho, hc, hn, hrm, hr⟩
  · simp at hi
  · have hm : (i + 1) * esz ≤ l.length * esz := Nat.mul_le_mul_right _ (by omega)
    rw [Nat.succ_mul] at hm
    have hid := (List.getElem?_eq_some_iff.1 ho).1
    refine ⟨id, off + i * esz, o, ho, by omega, rfl, fun s x y hx hy => ?_, fun a cs hcs hRa => .inr ⟨id, off, cap, spl o (off + i * esz) cs, by rw [List.length_set], by rw [List.getElem?_set_self hid], by rw [spl_length]; exact hc, by rw [List.length_set]; exact hn, by rw [List.length_set]; exact hrm, fun j b hj => ?_⟩⟩
    · unfold iadrK
      rw [hx, hy]
      simp only [Int.toNat_natCast, hc]
      rw [if_pos ⟨trivial, by omega, by omega⟩]
    · rw [List.getElem?_set] at hj
      split at hj
      · rename_i hij
        subst hij
        cases hj
        have := spl_same (o := o) (cs := cs) (p := off + i * esz) (by omega)
        rw [hcs] at this
        rw [this]
        exact hRa
      · rename_i hij
        rw [spl_other]
        · exact hr j b hj
        · rw [hcs]
          by_cases hlt : j < i
          · have : (j + 1) * esz ≤ i * esz := Nat.mul_le_mul_right _ (by omega)
            rw [Nat.succ_mul] at this
            exact .inl (by omega)
          · have : (i + 1) * esz ≤ j * esz := Nat.mul_le_mul_right _ (by omega)
            rw [Nat.succ_mul] at this
            exact .inr (by omega)

end
end Go.Proofs.Ytjepmnmakemfoaa.Ev

/- What comes in by a law's parameters, as rows of the small machine. -/
namespace Go.Proofs.Ytjepmnmakemfoaa.Ev
set_option linter.all false
open Go Go.ChangeShapes Go.WideShapes Go.RowKit

/-- Is there a block of cells at all? -/
def Blk (w : World) : Prop := ∃ (b : Nat) (ds : Array Value) (e : TypeId) (lo hi : Nat), w.heap[b]? = some (.cells ds e (lo, hi))

/-- Rows that are only read. -/
def RdRel (J : Inj) (M : Hp) (w : World) : Prop := WRel M.length J M w

def Ext (J : Inj) (M : Hp) (J' : Inj) (M' : Hp) : Prop := M <+: M' ∧ ∀ id, id < M.length → J' id = J id

theorem Ext.refl (J : Inj) (M : Hp) : Ext J M J M := ⟨List.prefix_refl _, fun _ _ => rfl⟩
theorem Ext.trans {J J' J'' : Inj} {M M' M'' : Hp} (h : Ext J M J' M') (k : Ext J' M' J'' M'') : Ext J M J'' M'' :=
  ⟨h.1.trans k.1, fun id hid => (k.2 id (Nat.lt_of_lt_of_le hid h.1.length_le)).trans (h.2 id hid)⟩
theorem Ext.keep {J J' : Inj} {M M' : Hp} (h : Ext J M J' M') : Keep J M J' M' := fun id o ho =>
  ⟨o, by rw [pre_get h.1 (List.getElem?_eq_some_iff.1 ho).1]; exact ho, .inr ⟨rfl, h.2 id (List.getElem?_eq_some_iff.1 ho).1⟩⟩

/-- Values of a type, brought into the machine: what stands for them, and what is known of them. -/
structure Bld {α : Type} (P : Program) (t : TypeId) (sz : Nat) (R : Hp → α → List Value → Prop) (ok : α → Prop) : Prop where
  cells : P.cellsOf t = sz
  pos : 0 < sz
  mono : ∀ {M M' : Hp} {z : α} {vs : List Value}, M <+: M' → R M z vs → R M' z vs
  bld : ∀ {H : Type} {enc : TypeId × Value → H} {w : World} {base : Nat} {held : Bool} {fuel : Nat} {cs : List Value} {x : DataW H × List MemPlace},
    DataW.trod enc P w base (fun _ => true) held fuel t cs = some x → (∀ a l c, .slice (some a) l c ∈ cs → Blk w) → ∀ (J : Inj) (M : Hp), RdRel J M w →
    ∃ (J' : Inj) (M' : Hp) (vs : List Value) (z : α), Ext J M J' M' ∧ RdRel J' M' w ∧ LRel J' M' vs cs ∧ (∀ v ∈ vs, v.oneCell' = true) ∧ R M' z vs ∧ ok z

theorem RdRel.nil (w : World) : RdRel (fun _ => none) [] w :=
  ⟨fun id o h => by simp at h, fun _ _ _ _ _ _ h _ => by simp at h, fun _ _ => rfl⟩

section
variable {P : Program}

theorem Bld.int {k : IntKind} {t : TypeId} (ht : P.underlying t = some (.int k)) (hc : P.cellsOf t = 1) : Bld P t 1 (fun _ n vs => vs = [.int k n]) (fun n => (Lit.int k n).wf = true) :=
  ⟨hc, by omega, fun _ h => h, fun h _ J M hr => by
    obtain ⟨n, rfl, _, hw⟩ := DataW.trod_int ht h
    exact ⟨J, M, _, n, .refl _ _, hr, .cons (.int k n) .nil, by simp [Value.oneCell'], rfl, hw⟩⟩

theorem Bld.bool {t : TypeId} (ht : P.underlying t = some .bool) (hc : P.cellsOf t = 1) : Bld P t 1 (fun _ b vs => vs = [.bool b]) (fun _ => True) :=
  ⟨hc, by omega, fun _ h => h, fun h _ J M hr => by
    obtain ⟨n, rfl, _⟩ := DataW.trod_bool ht h
    exact ⟨J, M, _, n, .refl _ _, hr, .cons (.bool n) .nil, by simp [Value.oneCell'], rfl, trivial⟩⟩

theorem Bld.string {t : TypeId} (ht : P.underlying t = some .string) (hc : P.cellsOf t = 1) : Bld P t 1 (fun _ s vs => vs = [.string s]) (fun s => s.size ≤ maxLen) :=
  ⟨hc, by omega, fun _ h => h, fun h _ J M hr => by
    obtain ⟨n, rfl, _, hw⟩ := DataW.trod_string ht h
    exact ⟨J, M, _, n, .refl _ _, hr, .cons (.str n) .nil, by simp [Value.oneCell'], rfl, hw⟩⟩

/-- A new row that is only read. -/
theorem RdRel.push {J : Inj} {M : Hp} {w : World} (h : RdRel J M w) {l : Loc} {ds : Array Value} {e : TypeId} {lo hi : Nat} {o : List Value} (hb : w.heap[l.b]? = some (.cells ds e (lo, hi))) (hs : ds.size = l.sz) (hl : l.sh + o.length ≤ l.sz)
    (ho : LRel J M o ((ds.toList.drop l.sh).take o.length)) (h1 : ∀ v ∈ o, v.oneCell' = true) :
    Ext J M (fun id => if id = M.length then some l else J id) (M ++ [o]) ∧ RdRel (fun id => if id = M.length then some l else J id) (M ++ [o]) w := by
  have hx : Ext J M (fun id => if id = M.length then some l else J id) (M ++ [o]) := ⟨List.prefix_append _ _, fun id hid => by show (if id = M.length then some l else J id) = J id; rw [if_neg (by omega)]⟩
  refine ⟨hx, fun id o2 ho2 => ?_, fun id id' l2 l' hne hB hl1 hl2 => ?_, fun id hid => ?_⟩
  · have hid := (List.getElem?_eq_some_iff.1 ho2).1
    rw [List.length_append, List.length_singleton] at hid
    by_cases he : id = M.length
    · subst he
      rw [List.getElem?_append_right (Nat.le_refl _), Nat.sub_self] at ho2
      cases ho2
      refine ⟨l, ds, e, lo, hi, by simp, hb, hs, hl, fun i v hv => ⟨h1 v (List.mem_of_getElem? hv), ?_⟩, fun hB => by rw [List.length_append, List.length_singleton] at hB; omega⟩
      obtain ⟨y, hy, hr⟩ := ho.get hv
      have hi2 := (List.getElem?_eq_some_iff.1 hv).1
      refine ⟨y, ?_, hr.keep hx.keep⟩
      rw [take_drop_get, if_pos hi2, Array.getElem?_toList] at hy
      exact hy
    · rw [List.getElem?_append_left (by omega)] at ho2
      obtain ⟨l2, ds2, e2, lo2, hi2, a1, a2, a3, a4, a5, _⟩ := h.row id o2 ho2
      refine ⟨l2, ds2, e2, lo2, hi2, by show (if id = M.length then some l else J id) = some l2; rw [if_neg he]; exact a1, a2, a3, a4, fun i v hv => ?_, fun hB => by rw [List.length_append, List.length_singleton] at hB; omega⟩
      obtain ⟨b1, d, b2, b3⟩ := a5 i v hv
      exact ⟨b1, d, b2, b3.keep hx.keep⟩
  · rw [List.length_append, List.length_singleton] at hB
    have hl1 : (if id = M.length then some _ else J id) = some l2 := hl1
    rw [if_neg (by omega), h.dom id (by omega)] at hl1
    cases hl1
  · rw [List.length_append, List.length_singleton] at hid
    show (if id = M.length then some l else J id) = none
    rw [if_neg (by omega)]
    exact h.dom id (by omega)

end
end Go.Proofs.Ytjepmnmakemfoaa.Ev

/- Lists and records that come in by a law's parameters. -/
namespace Go.Proofs.Ytjepmnmakemfoaa.Ev
set_option linter.all false
open Go Go.ChangeShapes Go.WideShapes Go.RowKit

theorem add_add (a : Addr) (m j : Nat) : (a.add m).add j = a.add (m + j) := by
  unfold Addr.add
  by_cases hm : m = 0
  · subst hm; simp
  · by_cases hj : j = 0
    · subst hj; simp [hm]
    · simp [hm, hj, Nat.add_assoc]

theorem cell_some {w : World} {a : Addr} {k : Nat} {v : Value} (h : w.cell? (a.add k) = some v) (hs : k = 0 → a.spot = none) :
    ∃ (ds : Array Value) (e : TypeId) (lo hi : Nat), w.heap[a.block]? = some (.cells ds e (lo, hi)) ∧ ds[a.off + k]? = some v := by
  have hb : (a.add k).block = a.block := by unfold Addr.add; split <;> rfl
  have ho : (a.add k).off = a.off + k := by
    unfold Addr.add
    split
    · rename_i hk; subst hk; rfl
    · rfl
  unfold World.cell? at h
  rw [hb, ho] at h
  split at h
  · rename_i c e r hc
    split at h
    · cases h
    · exact ⟨c, e, r.1, r.2, hc, h⟩
  · cases h

theorem cell_spot {w : World} {a : Addr} {v : Value} (h : w.cell? (a.add 0) = some v) : a.spot = none := by
  have : a.add 0 = a := by simp [Addr.add]
  rw [this] at h
  unfold World.cell? at h
  split at h
  · split at h
    · cases h
    · rename_i hs
      cases hsp : a.spot with
      | none => rfl
      | some x => rw [hsp] at hs; exact absurd rfl hs
  · cases h

section
variable {P : Program}

theorem Bld.slice {α : Type} {R : Hp → α → List Value → Prop} {ok : α → Prop} {t e : TypeId} {sz : Nat} (ht : P.underlying t = some (.slice e)) (hc : P.cellsOf t = 1) (he : Bld P e sz R ok) :
    Bld P t 1 (fun M l vs => ∃ v, vs = [v] ∧ Sl (R M) sz M v l) (fun l => l.length ≤ maxLen ∧ ∀ x ∈ l, ok x) := by
  refine ⟨hc, by omega, fun {M M' z vs} hp ⟨v, h1, h2⟩ => ⟨v, h1, (h2.pre hp).frame (fun a _ cs h => he.mono hp h) fun _ _ _ _ _ _ => rfl⟩, ?_⟩
  intro H enc w base held fuel cs x h hb J M hr
  rcases DataW.trod_slice ht h with ⟨rfl, _⟩ | ⟨a, len, cap, elems, rest, n, _, rfl, _, hbase, hlc, hm, hlen, hel, hre, _⟩
  · exact ⟨J, M, _, [], .refl _ _, hr, .cons .nsl .nil, by simp [Value.oneCell'], ⟨_, rfl, .inl ⟨rfl, rfl⟩⟩, by simp⟩
  · have hpos := he.pos
    have hesz := he.cells
    have hblk : Blk w := hb a len cap (by simp)
    have hread : ∀ i, i < cap → ∃ c, w.cells? base (a.add (i * sz)) sz = some c ∧ (i < len → ∃ y, DataW.trod enc P w base (fun _ => true) held n e c = some y) := fun i hi => by
      by_cases hil : i < len
      · have h1 := hel i hil
        rw [List.getElem?_eq_getElem (by omega), hesz] at h1
        obtain ⟨c, h2, h3⟩ := Option.bind_eq_some_iff.1 h1
        exact ⟨c, h2, fun _ => ⟨_, h3⟩⟩
      · obtain ⟨h1, h2⟩ := hre rfl
        have h3 := h2 (i - len) (by omega)
        rw [List.getElem?_eq_getElem (by omega), hesz, show len + (i - len) = i by omega] at h3
        obtain ⟨c, h4, h5⟩ := Option.bind_eq_some_iff.1 h3
        exact ⟨c, h4, fun h => absurd h hil⟩
    have key : ∀ m, m ≤ len → ∃ (J' : Inj) (M' : Hp) (vs rc : List Value) (z : List α), Ext J M J' M' ∧ RdRel J' M' w ∧ LRel J' M' vs rc ∧ (∀ v ∈ vs, v.oneCell' = true) ∧ vs.length = m * sz ∧
        (∀ k, k < m * sz → w.cell? (a.add k) = rc[k]?) ∧ z.length = m ∧ ∀ i x, z[i]? = some x → R M' x ((vs.drop (i * sz)).take sz) ∧ ok x := fun m => by
      induction m with
      | zero => exact fun _ => ⟨J, M, [], [], [], .refl _ _, hr, .nil, by simp, by simp, fun k hk => by omega, rfl, fun i x hx => by simp at hx⟩
      | succ m ih =>
        intro hml
        obtain ⟨J1, M1, vs1, rc1, z1, e1, r1, l1, o1, n1, c1, zl1, zr1⟩ := ih (by omega)
        obtain ⟨c, hc1, hc2⟩ := hread m (by omega)
        obtain ⟨y, hy⟩ := hc2 (by omega)
        obtain ⟨_, hcl, hcell⟩ := World.cells?_some hc1
        obtain ⟨J2, M2, vs2, z2, e2, r2, l2, o2, p2, k2⟩ := he.bld hy (fun _ _ _ _ => hblk) J1 M1 r1
        have hv2 : vs2.length = sz := by rw [l2.1, hcl]
        refine ⟨J2, M2, vs1 ++ vs2, rc1 ++ c, z1 ++ [z2], e1.trans e2, r2, (l1.keep e2.keep).append l2, fun v hv => ?_, by rw [List.length_append, n1, hv2, Nat.succ_mul], fun k hk => ?_, by simp [zl1], fun i x hx => ?_⟩
        · rcases List.mem_append.1 hv with h | h
          · exact o1 v h
          · exact o2 v h
        · have hrc : rc1.length = m * sz := by rw [← l1.1, n1]
          by_cases hkm : k < m * sz
          · rw [List.getElem?_append_left (by omega)]
            exact c1 k hkm
          · rw [Nat.succ_mul] at hk
            rw [List.getElem?_append_right (by omega), hrc, ← hcell (k - m * sz) (by omega), add_add, show m * sz + (k - m * sz) = k by omega]
        · by_cases hi : i < m
          · rw [List.getElem?_append_left (by omega)] at hx
            obtain ⟨q1, q2⟩ := zr1 i x hx
            refine ⟨?_, q2⟩
            have hle : (i + 1) * sz ≤ m * sz := Nat.mul_le_mul_right _ hi
            rw [Nat.succ_mul] at hle
            rw [List.drop_append_of_le_length (by omega), List.take_append_of_le_length (by rw [List.length_drop]; omega)]
            exact he.mono e2.1 q1
          · have hil := (List.getElem?_eq_some_iff.1 hx).1
            rw [List.length_append, List.length_singleton] at hil
            have him : i = m := by omega
            subst him
            rw [List.getElem?_append_right (by omega), zl1, Nat.sub_self] at hx
            cases hx
            refine ⟨?_, k2⟩
            rw [List.drop_append_of_le_length (by omega), List.drop_of_length_le (by omega), List.nil_append, List.take_of_length_le (by omega)]
            exact p2
    obtain ⟨J1, M1, vs, rc, z, e1, r1, l1, o1, n1, c1, zl, zr⟩ := key len (Nat.le_refl _)
    have fin : ∀ (l : Loc) (ds : Array Value) (e' : TypeId) (lo hi : Nat), w.heap[l.b]? = some (.cells ds e' (lo, hi)) → ds.size = l.sz → l.sh + vs.length ≤ l.sz → LRel J1 M1 vs ((ds.toList.drop l.sh).take vs.length) →
        ((len = 0 ∧ cap = 0) ∨ (a = ⟨l.b, l.sh + 0, none⟩ ∧ l.sh + 0 + cap * sz ≤ l.sz)) →
        ∃ (J' : Inj) (M' : Hp) (vs : List Value) (z : List α), Ext J M J' M' ∧ RdRel J' M' w ∧ LRel J' M' vs [.slice (some a) len cap] ∧ (∀ v ∈ vs, v.oneCell' = true) ∧ (∃ v, vs = [v] ∧ Sl (R M') sz M' v z) ∧ (z.length ≤ maxLen ∧ ∀ x ∈ z, ok x) := fun l ds e' lo hi h1 h2 h3 h4 h5 => by
      obtain ⟨x1, x2⟩ := r1.push h1 h2 h3 h4 o1
      refine ⟨_, _, [.slice (some ⟨M1.length, 0, some sz⟩) len (len * sz)], z, e1.trans x1, x2, .cons (.sl _ _ _ _ _ vs a cap (by simp) (by omega) hlc (Nat.mul_le_mul_right _ hlc) fun _ => ⟨l, by simp, h5⟩) .nil, by simp [Value.oneCell'], ⟨_, rfl, ?_⟩, by omega, fun y hy => ?_⟩
      · refine .inr ⟨M1.length, 0, len * sz, vs, by rw [zl], by simp, by omega, by rw [zl]; omega, by unfold maxLen at hm; omega, fun i y hy => ?_⟩
        rw [Nat.zero_add]
        exact he.mono x1.1 (zr i y hy).1
      · obtain ⟨i, hi⟩ := List.getElem?_of_mem hy
        exact (zr i y hi).2
    by_cases hcap : cap = 0
    · have hl0 : len = 0 := by omega
      obtain ⟨b, ds, e', lo, hi, hbk⟩ := hblk
      have hv0 : vs = [] := List.eq_nil_of_length_eq_zero (by rw [n1, hl0]; omega)
      refine fin ⟨b, 0, ds.size⟩ ds e' lo hi hbk rfl (by rw [hv0]; simp) ?_ (.inl ⟨hl0, hcap⟩)
      rw [hv0]
      exact ⟨by simp, fun i x y hx => by simp at hx⟩
    · obtain ⟨c0, hc0, _⟩ := hread 0 (by omega)
      obtain ⟨_, hcl0, hcell0⟩ := World.cells?_some hc0
      have q0 := hcell0 0 hpos
      rw [add_add, Nat.zero_mul, Nat.zero_add, List.getElem?_eq_getElem (by omega)] at q0
      have hspot := cell_spot q0
      obtain ⟨ds, e', lo, hi, hbk, _⟩ := cell_some q0 fun _ => hspot
      have hcells : ∀ k v, w.cell? (a.add k) = some v → ds[a.off + k]? = some v := fun k v hv => by
        obtain ⟨ds2, e2, lo2, hi2, hb2, hd2⟩ := cell_some hv fun _ => hspot
        rw [hbk] at hb2
        cases hb2
        exact hd2
      obtain ⟨c9, hc9, _⟩ := hread (cap - 1) (by omega)
      obtain ⟨_, hcl9, hcell9⟩ := World.cells?_some hc9
      have q9 := hcell9 (sz - 1) (by omega)
      rw [add_add, List.getElem?_eq_getElem (by omega)] at q9
      have hsz9 := (Array.getElem?_eq_some_iff.1 (hcells _ _ q9)).1
      have hmul : (cap - 1) * sz + sz = cap * sz := by
        rw [← Nat.succ_mul]
        congr 1
        omega
      have hlm : len * sz ≤ cap * sz := Nat.mul_le_mul_right _ hlc
      refine fin ⟨a.block, a.off, ds.size⟩ ds e' lo hi hbk rfl (by simp only; omega) ⟨?_, fun i x y hx hy => ?_⟩ (.inr ⟨?_, by simp only; omega⟩)
      · rw [List.length_take, List.length_drop, Array.length_toList]
        show vs.length = min vs.length (ds.size - a.off)
        omega
      · have hi2 := (List.getElem?_eq_some_iff.1 hx).1
        obtain ⟨y2, hy2, hr2⟩ := l1.get hx
        have := c1 i (by omega)
        rw [hy2] at this
        have h3 := hcells _ _ this
        rw [take_drop_get, if_pos hi2, Array.getElem?_toList, h3] at hy
        cases hy
        exact hr2
      · cases a
        simp only at hspot
        subst hspot
        rfl

/-- Fields in line, from an offset on. -/
structure SeqB {α : Type} (P : Program) (sz : Nat) (R : Hp → α → List Value → Prop) (ok : α → Prop) (fs : List (TypeId × Nat)) (off : Nat) : Prop where
  pos : 0 < sz
  mono : ∀ {M M' : Hp} {z : α} {vs : List Value}, M <+: M' → R M z vs → R M' z vs
  bld : ∀ {H : Type} {enc : TypeId × Value → H} {w : World} {base : Nat} {held : Bool} {fuel : Nat} {cs : List Value}, cs.length = off + sz →
    (∀ f, f ∈ fs → ∃ y, DataW.trod enc P w base (fun _ => true) held fuel f.1 ((cs.drop f.2).take (P.cellsOf f.1)) = some y) → (∀ a l c, .slice (some a) l c ∈ cs → Blk w) → ∀ (J : Inj) (M : Hp), RdRel J M w →
    ∃ (J' : Inj) (M' : Hp) (vs : List Value) (z : α), Ext J M J' M' ∧ RdRel J' M' w ∧ LRel J' M' vs (cs.drop off) ∧ (∀ v ∈ vs, v.oneCell' = true) ∧ R M' z vs ∧ ok z

theorem SeqB.one {α : Type} {R : Hp → α → List Value → Prop} {ok : α → Prop} {t : TypeId} {sz off : Nat} (h : Bld P t sz R ok) : SeqB P sz R ok [(t, off)] off :=
  ⟨h.pos, h.mono, fun {H enc w base held fuel cs} hl hf hb J M hr => by
    obtain ⟨y, hy⟩ := hf (t, off) (by simp)
    have e : (cs.drop off).take (P.cellsOf t) = cs.drop off := List.take_of_length_le (by rw [List.length_drop, h.cells]; omega)
    simp only [e] at hy
    exact h.bld hy (fun a l c hm => hb a l c (List.mem_of_mem_drop hm)) J M hr⟩

theorem SeqB.cons {α β : Type} {R1 : Hp → α → List Value → Prop} {R2 : Hp → β → List Value → Prop} {ok1 : α → Prop} {ok2 : β → Prop} {t : TypeId} {s1 s2 off off' : Nat} {fs : List (TypeId × Nat)} (h : Bld P t s1 R1 ok1) (ho : off' = off + s1) (hs : SeqB P s2 R2 ok2 fs off') :
    SeqB P (s1 + s2) (fun M (x : α × β) vs => ∃ u v, vs = u ++ v ∧ R1 M x.1 u ∧ R2 M x.2 v) (fun x => ok1 x.1 ∧ ok2 x.2) ((t, off) :: fs) off := by
  refine ⟨by have := h.pos; omega, fun {M M' z vs} hp ⟨u, v, e, a, b⟩ => ⟨u, v, e, h.mono hp a, hs.mono hp b⟩, ?_⟩
  intro H enc w base held fuel cs hl hf hb J M hr
  obtain ⟨y, hy⟩ := hf (t, off) (by simp)
  have hl' : cs.length = off + (s1 + s2) := hl
  obtain ⟨J1, M1, vs1, z1, e1, r1, l1, o1, p1, k1⟩ := h.bld hy (fun a l c hm => hb a l c (List.mem_of_mem_drop (List.mem_of_mem_take hm))) J M hr
  obtain ⟨J2, M2, vs2, z2, e2, r2, l2, o2, p2, k2⟩ := hs.bld (by rw [ho]; omega) (fun f hff => hf f (List.mem_cons_of_mem _ hff)) hb J1 M1 r1
  refine ⟨J2, M2, vs1 ++ vs2, (z1, z2), e1.trans e2, r2, ?_, fun v hv => ?_, ⟨vs1, vs2, rfl, h.mono e2.1 p1, p2⟩, k1, k2⟩
  · have := (l1.keep e2.keep).append l2
    rw [h.cells, ho, ← List.drop_drop, List.take_append_drop] at this
    exact this
  · rcases List.mem_append.1 hv with hm | hm
    · exact o1 v hm
    · exact o2 v hm

theorem Bld.struct {α : Type} {R : Hp → α → List Value → Prop} {ok : α → Prop} {t : TypeId} {sz : Nat} {fs : Array Field} (ht : P.underlying t = some (.struct fs)) (hc : P.cellsOf t = sz) (hs : SeqB P sz R ok (fs.toList.map fun f => (f.type, f.offset)) 0) : Bld P t sz R ok := by
  refine ⟨hc, hs.pos, hs.mono, fun {H enc w base held fuel cs x} h hb J M hr => ?_⟩
  obtain ⟨xs, n, _, _, hl, hxl, hx⟩ := DataW.trod_struct ht h
  have := hs.bld (enc := enc) (w := w) (base := base) (held := held) (fuel := n) (cs := cs) (by rw [hl, hc]; omega) (fun y hy => by
    obtain ⟨fl, hfl, rfl⟩ := List.mem_map.1 hy
    obtain ⟨i, hi⟩ := List.getElem?_of_mem hfl
    have hi' : fs[i]? = some fl := by rw [← hi]; simp
    have := hx i fl hi'
    have hlt : i < xs.length := by
      have := (List.getElem?_eq_some_iff.1 hi).1
      simp at this
      omega
    rw [List.getElem?_eq_getElem hlt] at this
    exact ⟨_, this⟩) hb J M hr
  simpa using this

theorem Bld.conv {α β : Type} {R : Hp → α → List Value → Prop} {R' : Hp → β → List Value → Prop} {ok : α → Prop} {ok' : β → Prop} {t : TypeId} {sz : Nat} (h : Bld P t sz R ok) (f : α → β) (hR : ∀ M z vs, R M z vs → R' M (f z) vs) (hm : ∀ {M M' : Hp} {z : β} {vs : List Value}, M <+: M' → R' M z vs → R' M' z vs) (hk : ∀ z, ok z → ok' (f z)) : Bld P t sz R' ok' :=
  ⟨h.cells, h.pos, hm, fun ht hb J M hr => by
    obtain ⟨J', M', vs, z, a1, a2, a3, a4, a5, a6⟩ := h.bld ht hb J M hr
    exact ⟨J', M', vs, f z, a1, a2, a3, a4, hR _ _ _ a5, hk _ a6⟩⟩

end
end Go.Proofs.Ytjepmnmakemfoaa.Ev

/- A law's parameters, one by one, and the whole of it. -/
namespace Go.Proofs.Ytjepmnmakemfoaa.Ev
set_option linter.all false
open Go Go.ChangeShapes Go.WideShapes Go.RowKit

structure ArgB {α : Type} (P : Program) (t : TypeId) (V : Hp → α → Value → Prop) (ok : α → Prop) : Prop where
  mono : ∀ {M M' : Hp} {z : α} {v : Value}, M <+: M' → V M z v → V M' z v
  arg : ∀ {H : Type} {enc : TypeId × Value → H} {w : World} {v : Value} {D : DataW H} {ps : List MemPlace} {base : Nat}, DataW.Trod enc P w 0 (fun _ => true) true t v D ps → Value.okWide P w .any base t v → ∀ (J : Inj) (M : Hp), RdRel J M w →
    ∃ (J' : Inj) (M' : Hp) (u : Value) (z : α), Ext J M J' M' ∧ RdRel J' M' w ∧ VRel J' M' u v ∧ V M' z u ∧ ok z

section
variable {P : Program}

theorem blk_of_shape {w : World} {r : Nat} {x : TypeId × Nat} (h : w.shape? r = some x) : Blk w := by
  unfold World.shape? at h
  split at h
  · rename_i c e q hc
    exact ⟨r, c, e, q.1, q.2, hc⟩
  · cases h

theorem cell_blk {w : World} {r : Reach} {base : Nat} {t : TypeId} {a : Addr} {l c : Nat} (h : Cell.okWide P w r base t (.slice (some a) l c)) : Blk w := by
  unfold Cell.okWide at h
  have h2 : Cell.ok P w r base t (.slice (some a) l c) := by
    revert h
    cases P.underlying t with
    | none => exact fun h => h
    | some d => cases d <;> exact fun h => h
  unfold Cell.ok at h2
  revert h2
  cases P.underlying t with
  | none => exact fun h => h.elim
  | some d => cases d <;> first | exact fun h => h.elim | exact fun h => by obtain ⟨_, _, _, _, row, cells, hs, _⟩ := h; exact blk_of_shape hs

theorem ArgB.one {α : Type} {R : Hp → α → List Value → Prop} {ok : α → Prop} {t : TypeId} (h : Bld P t 1 R ok) (hk : ∀ {w : World} {r : Reach} {base : Nat} {v : Value}, Value.okWide P w r base t v → v.cells = #[v] ∧ Cell.okWide P w r base t v) :
    ArgB P t (fun M z v => R M z [v]) ok :=
  ⟨h.mono, fun {H enc w v D ps base} hT hv J M hr => by
    obtain ⟨fuel, hf⟩ := hT
    obtain ⟨hc, hcell⟩ := hk hv
    rw [hc] at hf
    obtain ⟨J', M', vs, z, a1, a2, a3, a4, a5, a6⟩ := h.bld hf (fun a l c hm => by
      have h9 : Value.slice (some a) l c = v := by simpa using hm
      rw [← h9] at hcell
      exact cell_blk hcell) J M hr
    obtain ⟨u, rfl⟩ : ∃ u, vs = [u] := by
      have := a3.1
      cases vs with
      | nil => simp at this
      | cons y l => cases l with
        | nil => exact ⟨y, rfl⟩
        | cons z l => simp at this
    exact ⟨J', M', u, z, a1, a2, a3.2 0 u v rfl rfl, a5, a6⟩⟩

theorem ArgB.slice {α : Type} {R : Hp → α → List Value → Prop} {ok : α → Prop} {t e : TypeId} {sz : Nat} (ht : P.underlying t = some (.slice e)) (hc : P.cellsOf t = 1) (he : Bld P e sz R ok) :
    ArgB P t (fun M l v => Sl (R M) sz M v l) (fun l => l.length ≤ maxLen ∧ ∀ x ∈ l, ok x) := by
  have h := ArgB.one (Bld.slice ht hc he) (fun {w r base v} hv => by
    obtain ⟨a, len, cap, rfl⟩ := okWide_slice ht hv
    exact ⟨rfl, by unfold Value.okWide at hv; rw [ht] at hv; exact hv⟩)
  exact ⟨fun hp hs => by
    obtain ⟨v, e, h2⟩ := h.mono hp ⟨_, rfl, hs⟩
    cases e
    exact h2, fun hT hv J M hr => by
    obtain ⟨J', M', u, z, a1, a2, a3, ⟨v, e, h2⟩, a5⟩ := h.arg hT hv J M hr
    cases e
    exact ⟨J', M', u, z, a1, a2, a3, h2, a5⟩⟩

theorem ArgB.int {k : IntKind} {t : TypeId} (ht : P.underlying t = some (.int k)) (hc : P.cellsOf t = 1) : ArgB P t (fun _ n v => v = .int k n) (fun n => (Lit.int k n).wf = true) := by
  have h := ArgB.one (Bld.int ht hc) (fun {w r base v} hv => by
    obtain ⟨n, rfl⟩ := okWide_int ht hv
    exact ⟨rfl, by unfold Value.okWide at hv; rw [ht] at hv; exact hv⟩)
  exact ⟨fun _ h => h, fun hT hv J M hr => by
    obtain ⟨J', M', u, z, a1, a2, a3, a4, a5⟩ := h.arg hT hv J M hr
    exact ⟨J', M', u, z, a1, a2, a3, by simpa using a4, a5⟩⟩

theorem ArgB.bool {t : TypeId} (ht : P.underlying t = some .bool) (hc : P.cellsOf t = 1) : ArgB P t (fun _ b v => v = .bool b) (fun _ => True) := by
  have h := ArgB.one (Bld.bool ht hc) (fun {w r base v} hv => by
    obtain ⟨n, rfl⟩ := okWide_bool ht hv
    exact ⟨rfl, by unfold Value.okWide at hv; rw [ht] at hv; exact hv⟩)
  exact ⟨fun _ h => h, fun hT hv J M hr => by
    obtain ⟨J', M', u, z, a1, a2, a3, a4, a5⟩ := h.arg hT hv J M hr
    exact ⟨J', M', u, z, a1, a2, a3, by simpa using a4, a5⟩⟩

theorem ArgB.string {t : TypeId} (ht : P.underlying t = some .string) (hc : P.cellsOf t = 1) : ArgB P t (fun _ s v => v = .string s) (fun s => s.size ≤ maxLen) := by
  have h := ArgB.one (Bld.string ht hc) (fun {w r base v} hv => by
    obtain ⟨n, rfl⟩ := okWide_string ht hv
    exact ⟨rfl, by unfold Value.okWide at hv; rw [ht] at hv; exact hv⟩)
  exact ⟨fun _ h => h, fun hT hv J M hr => by
    obtain ⟨J', M', u, z, a1, a2, a3, a4, a5⟩ := h.arg hT hv J M hr
    exact ⟨J', M', u, z, a1, a2, a3, by simpa using a4, a5⟩⟩

theorem ArgB.struct {α : Type} {R : Hp → α → List Value → Prop} {ok : α → Prop} {t : TypeId} {sz : Nat} {fs : Array Field} (ht : P.underlying t = some (.struct fs)) (h : Bld P t sz R ok) :
    ArgB P t (fun M z v => ∃ vs, v = .agg vs ∧ R M z vs.toList) ok :=
  ⟨fun hp ⟨vs, e, hR⟩ => ⟨vs, e, h.mono hp hR⟩, fun {H enc w v D ps base} hT hv J M hr => by
    obtain ⟨fuel, hf⟩ := hT
    have hv2 := hv
    unfold Value.okWide at hv2
    rw [ht] at hv2
    obtain ⟨cs, rfl, hsz, ts, _, _, hcs⟩ := hv2
    obtain ⟨J', M', vs, z, a1, a2, a3, a4, a5, a6⟩ := h.bld hf (fun a l c hm => by
      obtain ⟨i, hi⟩ := List.getElem?_of_mem hm
      obtain ⟨u, _, hok⟩ := hcs i _ (by simpa [Value.cells] using hi)
      exact cell_blk hok) J M hr
    refine ⟨J', M', .agg vs.toArray, z, a1, a2, ?_, ⟨vs.toArray, rfl, a5⟩, a6⟩
    have hl := a3.1
    refine .agg _ _ (by simpa [Value.cells] using hl) (fun i x hx => a4 x (List.mem_of_getElem? (by simpa using hx))) fun i x y hx hy => a3.2 i x y (by simpa using hx) (by simpa [Value.cells] using hy)⟩

/-- The small machine's answer is Go's. -/
theorem law_run {E : Env} {hv : Nat → Nat → Bool} {J : Inj} {M : Hp} {w : World} {vs : List Value} {cs : Array Value} {f : Nat} (hmix : P.follows .mixedOrders = true) (hE : E.fns = fnsOf P hv) (hp : ∀ f, E.prim f = none) (hr : RdRel J M w) (hl : LRel J M vs cs.toList)
    (h : Fun E { wr := fun id => decide (M.length ≤ id), nr := false } f vs M fun r _ => r = .bool true) : Calls P f cs w fun e w' => e = .returned (.bool true) ∧ Below w.heap.size w w' := by
  obtain ⟨k, r, H', h1, rfl⟩ := h
  exact law_calls hmix hE (fun f p h => by rw [hp] at h; cases h) (fun f p h => by rw [hp] at h; cases h) h1 hr hl

end
end Go.Proofs.Ytjepmnmakemfoaa.Ev

/- Growing a slice of one's own. -/
namespace Go.Proofs.Ytjepmnmakemfoaa.Ev
set_option linter.all false
open Go

section
variable {m : Md} {α : Type} {R : α → List Value → Prop} {esz : Nat} {H : Hp} {v : Value} {l : List α}

theorem Sl.app {N n bytes : Nat} {l2 : List α} {cs : List Value} (h : Sl R esz H v l) (ho : OwnS N v) (hN : N ≤ H.length) (hw : ∀ id, N ≤ id → m.wr id = true) (hnr : m.nr = true → cs.all scal = true) (hpos : 0 < l2.length) (hcs : cs.length = l2.length * esz)
    (hr : ∀ (i : Nat) a, l2[i]? = some a → R a ((cs.drop (i * esz)).take esz)) (hb : (l.length + l2.length) * bytes ≤ Ev.room) (hb2 : l.length + l2.length ≤ Ev.room) :
    ∃ v' H', (∀ (s : St) (x y : X), s.H = H → exv s.ρ x = some v → srcOf H esz (ex s.ρ y) = some (l2.length, cs) → appK m s esz bytes x y = some (.val v', { s with H := H' })) ∧ Sl R esz H' v' (l ++ l2) ∧ OwnS N v' ∧
      (∀ j, j < H.length → j ∉ idsOf v → H'[j]? = H[j]?) ∧ H.length ≤ H'.length ∧ (∀ j ∈ idsOf v', j ∈ idsOf v ∨ H.length ≤ j) ∧ ∀ H0 : Hp, H0.length ≤ N → H0 <+: H → H0 <+: H' := by
  have hb3 : l.length + l2.length ≤ 9223372036854775807 := by unfold Ev.room at hb2; omega
  rcases ho with rfl | ⟨id, e, ln, cap, rfl, hid⟩
  · have hl : l = [] := by
      rcases h with ⟨_, h⟩ | ⟨_, _, _, _, h, _⟩
      · exact h
      · cases h
    subst hl
    simp only [List.length_nil, Nat.zero_add] at hb hb2 hb3
    refine ⟨.slice (some ⟨H.length, 0, some esz⟩) l2.length (l2.length * esz), H ++ [cs], fun s x y hH hx hy => ?_, .inr ⟨H.length, 0, l2.length * esz, cs, by simp, by simp, by omega, by simp, by simpa using hb3, fun i a hi => ?_⟩,
      .inr ⟨_, _, _, _, rfl, hN⟩, fun j hj _ => by rw [List.getElem?_append_left hj], by simp, fun j hj => ?_, fun H0 _ hp => pre_push hp⟩
    · unfold appK
      rw [hx, hH, hy]
      simp only
      rw [if_neg (by omega), if_pos ⟨hb, hb2⟩]
    · rw [Nat.zero_add]
      exact hr i a (by simpa using hi)
    · simp [idsOf] at hj
      exact .inr (by omega)
  · rcases h with ⟨h, _⟩ | ⟨id', off, cap', o, h, hg, hoc, hlc, hroom, hrr⟩
    · cases h
    cases h
    have hidl := (List.getElem?_eq_some_iff.1 hg).1
    have hwid := hw id hid
    have hold : ∀ (q : List Value), (∀ k, k < l.length * esz → q[k]? = o[k]?) → ∀ (i : Nat) a, l[i]? = some a → R a ((q.drop (0 + i * esz)).take esz) := fun q hq i a hi => by
      have hil := (List.getElem?_eq_some_iff.1 hi).1
      have hm : (i + 1) * esz ≤ l.length * esz := Nat.mul_le_mul_right _ hil
      rw [Nat.succ_mul] at hm
      have : (q.drop (0 + i * esz)).take esz = (o.drop (0 + i * esz)).take esz := by
        refine List.ext_getElem? fun k => ?_
        rw [take_drop_get, take_drop_get]
        by_cases hk : k < esz
        · rw [if_pos hk, if_pos hk, hq _ (by omega)]
        · rw [if_neg hk, if_neg hk]
      rw [this]
      exact hrr i a hi
    have hnew : ∀ (q : List Value), (∀ k, k < cs.length → q[l.length * esz + k]? = cs[k]?) → ∀ (i : Nat) a, l2[i]? = some a → R a ((q.drop (0 + (l.length + i) * esz)).take esz) := fun q hq i a hi => by
      have hil := (List.getElem?_eq_some_iff.1 hi).1
      have hm : (i + 1) * esz ≤ l2.length * esz := Nat.mul_le_mul_right _ hil
      rw [Nat.succ_mul] at hm
      have : (q.drop (0 + (l.length + i) * esz)).take esz = (cs.drop (i * esz)).take esz := by
        refine List.ext_getElem? fun k => ?_
        rw [take_drop_get, take_drop_get]
        by_cases hk : k < esz
        · rw [if_pos hk, if_pos hk, Nat.zero_add, Nat.add_mul, Nat.add_assoc, hq _ (by omega)]
        · rw [if_neg hk, if_neg hk]
      rw [this]
      exact hr i a hi
    have both : ∀ (q : List Value), (∀ k, k < l.length * esz → q[k]? = o[k]?) → (∀ k, k < cs.length → q[l.length * esz + k]? = cs[k]?) → ∀ (i : Nat) a, (l ++ l2)[i]? = some a → R a ((q.drop (0 + i * esz)).take esz) := fun q h1 h2 i a hi => by
      by_cases hil : i < l.length
      · rw [List.getElem?_append_left hil] at hi
        exact hold q h1 i a hi
      · rw [List.getElem?_append_right (by omega)] at hi
        have := hnew q h2 _ a hi
        rw [show l.length + (i - l.length) = i by omega] at this
        exact this
    by_cases hfit : (l.length + l2.length) * esz ≤ cap
    · have hfit' : l.length * esz + cs.length ≤ cap := by rw [hcs, ← Nat.add_mul]; exact hfit
      refine ⟨.slice (some ⟨id, 0, some esz⟩) (l.length + l2.length) cap, H.set id (spl o (0 + l.length * esz) cs), fun s x y hH hx hy => ?_, .inr ⟨id, 0, cap, _, by rw [List.length_append], by rw [List.getElem?_set_self hidl], by rw [spl_length]; exact hoc, by rw [List.length_append]; exact hfit, by rw [List.length_append]; exact hb3,
        both _ (fun k hk => ?_) (fun k hk => ?_)⟩, .inr ⟨_, _, _, _, rfl, hid⟩, fun j hj hne => ?_, by simp, fun j hj => .inl hj, fun H0 h0 hp => pre_set hp (by omega)⟩
      · unfold appK
        rw [hx, hH, hy]
        simp only
        rw [if_neg (by omega), hg]
        simp only
        rw [if_pos ⟨trivial, hoc, hwid, hnr⟩, if_pos hfit]
      · rw [spl_get, if_neg (by omega)]
      · rw [spl_get, if_pos (by omega), if_pos (by omega)]
        congr 1
        omega
      · rw [List.getElem?_set_ne]
        simp [idsOf] at hne
        omega
    · have htl : (o.take (l.length * esz)).length = l.length * esz := by rw [List.length_take]; omega
      refine ⟨.slice (some ⟨id, 0, some esz⟩) (l.length + l2.length) ((l.length + l2.length) * esz), H.set id (o.take (l.length * esz) ++ cs), fun s x y hH hx hy => ?_, .inr ⟨id, 0, _, _, by rw [List.length_append], by rw [List.getElem?_set_self hidl], by rw [List.length_append, htl, hcs, ← Nat.add_mul, Nat.zero_add], by rw [List.length_append]; exact Nat.le_refl _, by rw [List.length_append]; exact hb3,
        both _ (fun k hk => ?_) (fun k hk => ?_)⟩, .inr ⟨_, _, _, _, rfl, hid⟩, fun j hj hne => ?_, by simp, fun j hj => .inl hj, fun H0 h0 hp => pre_set hp (by omega)⟩
      · unfold appK
        rw [hx, hH, hy]
        simp only
        rw [if_neg (by omega), hg]
        simp only
        rw [if_pos ⟨trivial, hoc, hwid, hnr⟩, if_neg hfit, if_pos ⟨trivial, by omega, hb, hb2⟩]
      · rw [List.getElem?_append_left (by omega), List.getElem?_take, if_pos hk]
      · rw [List.getElem?_append_right (by omega), htl, show l.length * esz + k - l.length * esz = k by omega]
      · rw [List.getElem?_set_ne]
        simp [idsOf] at hne
        omega

theorem Sl.src (h : Sl R esz H v l) : ∃ cs, srcOf H esz (.val v) = some (l.length, cs) ∧ cs.length = l.length * esz ∧ ∀ (i : Nat) a, l[i]? = some a → R a ((cs.drop (i * esz)).take esz) := by
  rcases h with ⟨rfl, rfl⟩ | ⟨id, off, cap, o, rfl, hg, hoc, hlc, hroom, hrr⟩
  · exact ⟨[], rfl, by simp, fun i a hi => by simp at hi⟩
  · refine ⟨(o.drop off).take (l.length * esz), ?_, by rw [List.length_take, List.length_drop]; omega, fun i a hi => ?_⟩
    · simp only [srcOf, rowOf, hg]
      rw [if_pos hoc]
      simp only
      rw [if_pos ⟨trivial, by omega⟩]
    · have hil := (List.getElem?_eq_some_iff.1 hi).1
      have hm : (i + 1) * esz ≤ l.length * esz := Nat.mul_le_mul_right _ hil
      rw [Nat.succ_mul] at hm
      have : (((o.drop off).take (l.length * esz)).drop (i * esz)).take esz = (o.drop (off + i * esz)).take esz := by
        refine List.ext_getElem? fun k => ?_
        rw [take_drop_get ((o.drop off).take (l.length * esz)) (i * esz) esz k, take_drop_get o (off + i * esz) esz k]
        by_cases hk : k < esz
        · rw [if_pos hk, if_pos hk, take_drop_get, if_pos (by omega), Nat.add_assoc]
        · rw [if_neg hk, if_neg hk]
      rw [this]
      exact hrr i a hi

theorem Sl.copy {bytes : Nat} (h : Sl R esz H v l) (hb : l.length * bytes ≤ Ev.room) (hb2 : l.length ≤ Ev.room) :
    ∃ v' H', (∀ (s : St) (x y : X), s.H = H → exv s.ρ x = some (.slice none 0 0) → ex s.ρ y = .val v → appK m s esz bytes x y = some (.val v', { s with H := H' })) ∧ H <+: H' ∧ Sl R esz H' v' l ∧ OwnS H.length v' := by
  obtain ⟨cs, h1, h2, h3⟩ := h.src
  by_cases h0 : l.length = 0
  · have hl : l = [] := List.eq_nil_of_length_eq_zero h0
    subst hl
    refine ⟨.slice none 0 0, H, fun s x y hH hx hy => ?_, List.prefix_refl _, .inl ⟨rfl, rfl⟩, .inl rfl⟩
    subst hH
    unfold appK
    rw [hx, hy, h1]
    rfl
  · refine ⟨.slice (some ⟨H.length, 0, some esz⟩) l.length (l.length * esz), H ++ [cs], fun s x y hH hx hy => ?_, List.prefix_append _ _, .inr ⟨H.length, 0, l.length * esz, cs, rfl, by simp, by omega, Nat.le_refl _, by unfold Ev.room at hb2; omega, fun i a hi => ?_⟩, .inr ⟨_, _, _, _, rfl, Nat.le_refl _⟩⟩
    · unfold appK
      rw [hx, hH, hy, h1]
      simp only
      rw [if_neg h0, if_pos ⟨hb, hb2⟩]
    · rw [Nat.zero_add]
      exact h3 i a hi

end
end Go.Proofs.Ytjepmnmakemfoaa.Ev

/- slices.Sort of whole numbers, by its contract off the kit's shelf. -/
namespace Go.Proofs.Ytjepmnmakemfoaa.Ev
set_option linter.all false
open Go

def isI : Value → Bool
  | .int .i64 _ => true
  | _ => false
def toI : Value → Int
  | .int _ n => n
  | _ => 0
def srt (l : List Int) : List Int := l.mergeSort fun x y => decide (x ≤ y)

def sortP (m : Md) (vs : List Value) (H : Hp) : Option (Value × Hp) :=
  match vs with
  | [.slice none 0 0] => some (.tuple #[], H)
  | [.slice (some ⟨id, off, some 1⟩) len cap] =>
    match H[id]? with
    | some o => if off + cap = o.length ∧ len ≤ cap ∧ m.wr id = true ∧ len < 4611686018427387904 ∧ ((o.drop off).take len).all isI = true then
        some (.tuple #[], H.set id (spl o off ((srt (((o.drop off).take len).map toI)).map (Value.int .i64)))) else none
    | none => none
  | _ => none

end Go.Proofs.Ytjepmnmakemfoaa.Ev

/- Functions that are told by themselves: the calls, and the law's row. -/
namespace Go.Proofs.Ytjepmnmakemfoaa.Ev
set_option linter.all false
open Go RowKit

theorem Fun.prim {E : Env} {m : Md} {f : Nat} {vs : List Value} {H H' : Hp} {r : Value} {p : Md → List Value → Hp → Option (Value × Hp)} {Q : Value → Hp → Prop} (hp : E.prim f = some p) (h : p m vs H = some (r, H')) (hq : Q r H') : Fun E m f vs H Q :=
  ⟨1, r, H', by rw [evF, hp]; exact h, hq⟩

theorem Sl.sort {E : Env} {m : Md} {F : Nat} {H : Hp} {v : Value} {l : List Int} (hp : E.prim F = some sortP) (h : Sl (En eI) 1 H v l) (hle : l.length ≤ 1048576) (hw : ∀ id ∈ idsOf v, m.wr id = true) :
    Fun E m F [v] H fun r H' => r = .tuple #[] ∧ Sl (En eI) 1 H' v (srt l) ∧ (∀ j, j ∉ idsOf v → H'[j]? = H[j]?) ∧ H'.length = H.length := by
  rcases h with ⟨rfl, rfl⟩ | ⟨id, off, cap, o, rfl, ho, hc, hn, hrm, hr⟩
  · exact Fun.prim hp rfl ⟨rfl, .inl ⟨rfl, by simp [srt]⟩, fun _ _ => rfl, rfl⟩
  · have hget : ∀ i, (hi : i < l.length) → o[off + i]? = some (.int .i64 l[i]) := fun i hi => by
      have h1 := hr i l[i] (List.getElem?_eq_getElem hi)
      unfold En at h1
      simpa [eI] using getElem?_of_take h1 (j := 0) (by omega)
    have hcs : (o.drop off).take l.length = l.map (Value.int .i64) := by
      refine List.ext_getElem? fun j => ?_
      rw [List.getElem?_take, List.getElem?_map]
      split
      · rename_i hj
        rw [List.getElem?_drop, hget j hj, List.getElem?_eq_getElem hj]
        rfl
      · rename_i hj
        rw [List.getElem?_eq_none (by omega)]
        rfl
    have hz : ((o.drop off).take l.length).map toI = l := by
      rw [hcs, List.map_map]
      exact List.map_id l
    have hall : ((o.drop off).take l.length).all isI = true := by
      rw [hcs, List.all_map]
      exact List.all_eq_true.2 fun _ _ => rfl
    have hsl : (srt l).length = l.length := by simp [srt]
    have hidl := (List.getElem?_eq_some_iff.1 ho).1
    refine Fun.prim hp (r := .tuple #[]) (H' := H.set id (spl o off ((srt l).map (Value.int .i64)))) ?_ ⟨rfl, .inr ⟨id, off, cap, _, by rw [hsl], List.getElem?_set_self hidl, by rw [spl_length]; exact hc, by rw [hsl]; exact hn, by rw [hsl]; exact hrm, fun i a hi => ?_⟩, fun j hj => ?_, by simp⟩
    · unfold sortP
      simp only [ho]
      rw [if_pos ⟨hc, by omega, hw id (by simp [idsOf]), by omega, hall⟩, hz]
    · have hil : i < l.length := by rw [← hsl]; exact (List.getElem?_eq_some_iff.1 hi).1
      unfold En eI
      refine List.ext_getElem? fun j => ?_
      rw [take_drop_get]
      by_cases hj : j < 1
      · have : j = 0 := by omega
        subst this
        rw [if_pos hj, spl_get, if_pos (by simp [hsl]; omega), if_pos (by omega), List.getElem?_map, show off + i * 1 + 0 - off = i by omega, hi]
        rfl
      · rw [if_neg hj, List.getElem?_eq_none (by simp; omega)]
    · rw [List.getElem?_set_ne]
      simp [idsOf] at hj
      omega

end Go.Proofs.Ytjepmnmakemfoaa.Ev

/- Numbers that rise: plain. -/
namespace Go.Proofs.Ytjepmnmakemfoaa.Ev
set_option linter.all false
open Go

end Go.Proofs.Ytjepmnmakemfoaa.Ev

/- The rest of a slice; what lies behind a place, cleared. -/
namespace Go.Proofs.Ytjepmnmakemfoaa.Ev
set_option linter.all false
open Go

section
variable {m : Md} {α : Type} {R : α → List Value → Prop} {esz : Nat} {H : Hp} {v : Value} {l : List α}

theorem Sl.drop (h : Sl R esz H v l) {i : Nat} (hi : i ≤ l.length) : ∃ v', (∀ (s : St) (x y : X), exv s.ρ x = some v → exv s.ρ y = some (.int .i64 i) → slcK s esz x (some y) none = some (.val v', s)) ∧
    (∀ j ∈ idsOf v', j ∈ idsOf v) ∧ ∀ (H' : Hp) (l' : List α), l'.length = l.length → Sl R esz H' v l' → Sl R esz H' v' (l'.drop i) := by
  rcases h with ⟨rfl, rfl⟩ | ⟨id, off, cap, o, rfl, ho, hc, hn, hrm, hr⟩
  · simp at hi
    subst hi
    refine ⟨.slice none 0 0, fun s x y hx hy => ?_, fun j hj => hj, fun H' l' hl h => by rw [List.eq_nil_of_length_eq_zero hl] at h ⊢; exact h⟩
    simp only [slcK, bnd, hx, hy]
    rfl
  · have hm : i * esz ≤ l.length * esz := Nat.mul_le_mul_right _ hi
    refine ⟨.slice (some ⟨id, off + i * esz, some esz⟩) (l.length - i) (cap - i * esz), fun s x y hx hy => ?_, fun j hj => hj, fun H' l' hl h => ?_⟩
    · simp only [slcK, bnd, hx, hy]
      rw [if_pos ⟨trivial, by omega, by omega, .inl (by omega), by simp; omega⟩]
      simp [St.val]
    · rcases h with ⟨h, _⟩ | ⟨id', off', cap', o', h, ho', hc', hn', hrm', hr'⟩
      · cases h
      · rw [← hl] at h
        cases h
        have hm' : i * esz ≤ l'.length * esz := Nat.mul_le_mul_right _ (by omega)
        refine .inr ⟨id, off + i * esz, cap - i * esz, o', by rw [List.length_drop, hl], ho', by omega, ?_, by rw [List.length_drop]; omega, fun j a hj => ?_⟩
        · rw [List.length_drop, Nat.sub_mul]; omega
        · rw [List.getElem?_drop] at hj
          have := hr' _ a hj
          rw [show off + i * esz + j * esz = off + (i + j) * esz by rw [Nat.add_mul]; omega]
          exact this

theorem Sl.cut (h : Sl R esz H v l) {i : Nat} (hi : i ≤ l.length) {zero : List Value} (hz : zero.length = esz) (hzs : zero.all scal = true) (hw : ∀ id ∈ idsOf v, m.wr id = true) : ∃ v3 v2 H', (∀ (s : St) (x y : X), exv s.ρ x = some v → exv s.ρ y = some (.int .i64 i) → slcK s esz x (some y) none = some (.val v3, s)) ∧
    (∀ (s : St) (x : X), s.H = H → exv s.ρ x = some v3 → clrK m s esz zero x = some (.val (.tuple #[]), { s with H := H' })) ∧
    (∀ (s : St) (x y : X), exv s.ρ x = some v → exv s.ρ y = some (.int .i64 i) → slcK s esz x none (some y) = some (.val v2, s)) ∧ Sl R esz H' v2 (l.take i) ∧ (∀ N, OwnS N v → OwnS N v2) ∧ (∀ j, j ∉ idsOf v → H'[j]? = H[j]?) ∧ H'.length = H.length ∧ ∀ j ∈ idsOf v2, j ∈ idsOf v := by
  rcases h with ⟨rfl, rfl⟩ | ⟨id, off, cap, o, rfl, ho, hc, hn, hrm, hr⟩
  · simp at hi
    subst hi
    refine ⟨.slice none 0 0, .slice none 0 0, H, fun s x y hx hy => ?_, fun s x hH hx => ?_, fun s x y hx hy => ?_, .inl ⟨rfl, by simp⟩, fun N h => h, fun _ _ => rfl, rfl, fun j hj => hj⟩
    · simp only [slcK, bnd, hx, hy]
      rfl
    · subst hH
      simp only [clrK, hx]
      rfl
    · simp only [slcK, bnd, hx, hy]
      rfl
  · have hm : i * esz ≤ l.length * esz := Nat.mul_le_mul_right _ hi
    have hidl := (List.getElem?_eq_some_iff.1 ho).1
    refine ⟨.slice (some ⟨id, off + i * esz, some esz⟩) (l.length - i) (cap - i * esz), .slice (some ⟨id, off, some esz⟩) i cap, H.set id (spl o (off + i * esz) (zeros (l.length - i) zero)), fun s x y hx hy => ?_, fun s x hH hx => ?_, fun s x y hx hy => ?_, .inr ⟨id, off, cap, _, by rw [List.length_take, Nat.min_eq_left hi], List.getElem?_set_self hidl, by rw [spl_length]; exact hc, by rw [List.length_take, Nat.min_eq_left hi]; omega, by rw [List.length_take]; omega, fun j a hj => ?_⟩, fun N h => ?_, fun j hj => ?_, by simp, fun j hj => hj⟩
    · simp only [slcK, bnd, hx, hy]
      rw [if_pos ⟨trivial, by omega, by omega, .inl (by omega), by simp; omega⟩]
      simp [St.val]
    · subst hH
      simp only [clrK, hx, ho]
      rw [if_pos ⟨trivial, by omega, hw id (by simp [idsOf]), hzs, by rw [Nat.sub_mul]; omega⟩]
    · simp only [slcK, bnd, hx, hy]
      rw [if_pos ⟨trivial, by omega, by omega, .inl (by omega), by simp⟩]
      simp [St.val]
    · rw [List.getElem?_take] at hj
      split at hj
      · rename_i hji
        have hm2 : (j + 1) * esz ≤ i * esz := Nat.mul_le_mul_right _ hji
        rw [Nat.succ_mul] at hm2
        rw [spl_other (.inl (by omega))]
        exact hr j a hj
      · cases hj
    · rcases h with h | ⟨id', e, ln, cp, h, hN⟩
      · cases h
      · cases h
        exact .inr ⟨_, _, _, _, rfl, hN⟩
    · rw [List.getElem?_set_ne]
      simp [idsOf] at hj
      omega
end
end Go.Proofs.Ytjepmnmakemfoaa.Ev

/- Ways that come together again; calls that may write what they are handed. -/
namespace Go.Proofs.Ytjepmnmakemfoaa.Ev
set_option linter.all false
open Go

section
variable {E : Env} {m : Md} {s : St} {Q : Ex → St → Prop} {ts : List Tk}

end
end Go.Proofs.Ytjepmnmakemfoaa.Ev

/- Bytes and the numbers that are written in them: plain. -/
namespace Go.Proofs.Ytjepmnmakemfoaa.Ev
set_option linter.all false
open Go

/-- A text of bytes that are told as numbers. -/
def strOf (l : List Nat) : ByteArray := ⟨(l.map UInt8.ofNat).toArray⟩
def varL (n : Nat) : List Nat := if n < 128 then [n] else (n % 128 + 128) :: varL (n / 128)
termination_by n

def varB (n : Int) : ByteArray := if 0 ≤ n ∧ n ≤ 562949953421311 then strOf (varL n.toNat) else ByteArray.empty

/-- What so many bytes say. -/
def valB (s : ByteArray) : Nat → Nat
  | 0 => 0
  | k + 1 => valB s k + (match s[k]? with | some b => b.toNat % 128 | none => 0) * 128 ^ k

theorem valB_lt (s : ByteArray) : ∀ k, valB s k < 128 ^ k
  | 0 => by simp [valB]
  | k + 1 => by
    have := valB_lt s k
    rw [valB, Nat.pow_succ]
    generalize hd : (match s[k]? with | some b => b.toNat % 128 | none => 0) = d
    have h2 : d ≤ 127 := by
      subst hd
      split
      · exact Nat.le_of_lt_succ (Nat.mod_lt _ (by decide))
      · exact Nat.zero_le _
    have h3 := Nat.mul_le_mul_right (128 ^ k) h2
    generalize d * 128 ^ k = q at h3
    omega

/-- Is that the number's text? -/
def isV (s : ByteArray) (k : Nat) : Prop := varB (valB s k) = s.extract 0 k

/-- The number that a text begins with, and how many bytes it has; none without one. -/
def readV (s : ByteArray) (n k : Nat) : Prop := 1 ≤ k ∧ k ≤ 7 ∧ k ≤ s.size ∧ n = valB s k ∧ isV s k
open Classical in
/-- .. as numbers: 0, 0 without one. -/
noncomputable def rdV (s : ByteArray) : Nat × Nat := if h : ∃ p : Nat × Nat, readV s p.1 p.2 then Classical.choose h else (0, 0)
end Go.Proofs.Ytjepmnmakemfoaa.Ev

/- Terms: plain. -/
namespace Go.Proofs.Ytjepmnmakemfoaa.Ev
set_option linter.all false
open Go

/-- The text from a place on. -/
def rest (s : ByteArray) (at_ : Nat) : ByteArray := s.extract at_ s.size
theorem readV.max {s : ByteArray} {n k : Nat} (h : readV s n k) : n ≤ 562949953421311 := by
  obtain ⟨h1, h2, h3, h4, h5⟩ := h
  have := valB_lt s k
  have h6 : 128 ^ k ≤ 128 ^ 7 := Nat.pow_le_pow_right (by decide) h2
  have h7 : (128 : Nat) ^ 7 = 562949953421312 := by decide
  omega

end Go.Proofs.Ytjepmnmakemfoaa.Ev

/- Rows of bytes, and the texts made of them. -/
namespace Go.Proofs.Ytjepmnmakemfoaa.Ev
set_option linter.all false
open Go

def eN (n : Nat) : List Value := [.int .u8 (n : Int)]
abbrev SlN (H : Hp) (v : Value) (l : List Nat) : Prop := Sl (En eN) 1 H v l

theorem bytesOf_map : ∀ {l : List Nat}, (∀ n ∈ l, n < 256) → bytesOf (l.map fun (n : Nat) => Value.int .u8 (n : Int)) = some (l.map UInt8.ofNat)
  | [], _ => rfl
  | a :: l, h => by
    have ih := bytesOf_map (l := l) fun n hn => h n (List.mem_cons_of_mem _ hn)
    have ha := h a (by simp)
    simp only [List.map_cons, bytesOf, ih, byteOf, Int.toNat_natCast]

theorem Sl.b2s {H : Hp} {v : Value} {l : List Nat} (h : SlN H v l) (hl : ∀ n ∈ l, n < 256) : ∀ (s : St) (x : X), s.H = H → ex s.ρ x = .val v → b2sK s x = some (.val (.string (strOf l)), s) := by
  obtain ⟨cs, h1, h2, h3⟩ := h.src
  intro s x hH hx
  have hcs : cs = l.map fun (n : Nat) => Value.int .u8 (n : Int) := by
    refine List.ext_getElem? fun j => ?_
    rw [List.getElem?_map]
    by_cases hj : j < l.length
    · have := h3 j _ (List.getElem?_eq_getElem hj)
      unfold En eN at this
      have h4 := getElem?_of_take this (j := 0) (by omega)
      rw [Nat.mul_one, Nat.add_zero] at h4
      rw [h4, List.getElem?_eq_getElem hj]
      rfl
    · rw [List.getElem?_eq_none (by omega), List.getElem?_eq_none (by omega)]
      rfl
  unfold b2sK
  rw [hx, hH, h1]
  simp only
  rw [hcs, bytesOf_map hl]
  rfl

theorem wrap8 (n : Int) (h0 : 0 ≤ n) (h1 : n < 256) : IntKind.u8.wrap n = n := by
  simp [IntKind.wrap, IntKind.bits, IntKind.signed]
  omega

end Go.Proofs.Ytjepmnmakemfoaa.Ev

/- The seat's program on the small machine: which slots hold boxes of their own, which functions leave memory as it is. -/
namespace Go.Proofs.Ytjepmnmakemfoaa.Ev
set_option linter.all false
open Go
def hvT : List (Nat × List Nat) := [(5, [6, 9]), (11, [10, 12, 18]), (12, [1, 5]), (13, [3, 7, 8, 10, 108]), (14, [3, 4, 8, 10, 11, 16]), (16, [4]), (18, [4]), (21, [9]), (22, [4, 6]), (23, [4, 6, 9]), (24, [2, 3]), (26, [5]), (27, [49]), (28, [7, 10, 45]), (31, [52]), (32, [7, 28]), (36, [73, 80, 89]), (37, [9, 53]), (39, [2]), (40, [1]), (41, [1, 2, 3]), (42, [1, 4]), (43, [2, 3]), (45, [3, 4, 6, 8, 66]), (46, [3, 4, 6, 8, 76]), (47, [2]), (48, [2]), (49, [1, 2, 3]), (50, [2]), (51, [2]), (53, [1, 2, 3]), (57, [2, 3]), (59, [15, 22]), (60, [15, 22]), (61, [39]), (73, [3]), (75, [3]), (78, [1, 2]), (79, [2, 7, 27]), (82, [2, 32]), (86, [2]), (90, [34]), (94, [3]), (95, [2, 3])]
def hv (f t : Nat) : Bool := match hvT.find? (·.1 == f) with | some p => p.2.contains t | none => false
def trT : List Nat := [15, 16, 18, 19, 20, 21, 24, 25, 26, 30, 33, 44, 52, 53, 54, 55, 56, 57, 58, 59, 60, 66, 67, 68, 71, 76, 85, 86, 87, 88, 89, 90, 91, 96, 97, 22, 23, 81]
noncomputable def EE : Env := { fns := fnsOf Go.Proofs.Try.prog hv, prim := fun _ => none, pw := fun f => [59, 60].contains f, tr := fun f => trT.contains f }
end Go.Proofs.Ytjepmnmakemfoaa.Ev

/- The types of the laws' parameters: texts. -/
namespace Go.Proofs.Ytjepmnmakemfoaa.Ev
set_option linter.all false
open Go
set_option maxRecDepth 100000
end Go.Proofs.Ytjepmnmakemfoaa.Ev

/- A number's text, and what follows it, read again: plain. -/
namespace Go.Proofs.Ytjepmnmakemfoaa.Ev
set_option linter.all false
open Go

theorem cat_left {a b : ByteArray} {i : Nat} (h : i < a.size) : (a ++ b)[i]? = a[i]? := by
  show (a ++ b).data[i]? = a.data[i]?
  rw [ByteArray.data_append, Array.getElem?_append_left (show i < a.data.size from h)]
end Go.Proofs.Ytjepmnmakemfoaa.Ev

/- A row of plain elements behind another one; one element taken out of a row. -/
namespace Go.Proofs.Ytjepmnmakemfoaa.Ev
set_option linter.all false
open Go

section
variable {m : Md} {α : Type} {enc : α → List Value} {esz : Nat} {H : Hp} {v u : Value} {l l2 : List α}

theorem chunks_scal {cs : List Value} (he : ∀ a, (enc a).all scal = true) (h0 : 0 < esz) (hl : cs.length = l.length * esz) (hel : ∀ (i : Nat) a, l[i]? = some a → En enc a ((cs.drop (i * esz)).take esz)) : cs.all scal = true := by
  rw [List.all_eq_true]
  intro c hc
  obtain ⟨j, hj⟩ := List.getElem?_of_mem hc
  have hjl := (List.getElem?_eq_some_iff.1 hj).1
  have hdiv : j / esz < l.length := (Nat.div_lt_iff_lt_mul h0).2 (by omega)
  have := hel _ _ (List.getElem?_eq_getElem hdiv)
  unfold En at this
  have hmod := Nat.mod_lt j h0
  have h3 := getElem?_of_take this (j := j % esz) hmod
  have e : j / esz * esz + j % esz = j := by rw [Nat.mul_comm]; exact Nat.div_add_mod j esz
  rw [e, hj] at h3
  have := he l[j / esz]
  rw [List.all_eq_true] at this
  exact this c (List.mem_of_getElem? h3.symm)

theorem Sl.join {N bytes : Nat} (h : Sl (En enc) esz H v l) (h2 : Sl (En enc) esz H u l2) (he : ∀ a, (enc a).all scal = true) (h0 : 0 < esz) (ho : OwnS N v) (hN : N ≤ H.length) (hw : ∀ id, N ≤ id → m.wr id = true)
    (hb : (l.length + l2.length) * bytes ≤ Ev.room) (hb2 : l.length + l2.length ≤ Ev.room) :
    ∃ v' H', (∀ (s : St) (x y : X), s.H = H → exv s.ρ x = some v → ex s.ρ y = .val u → appK m s esz bytes x y = some (.val v', { s with H := H' })) ∧ Sl (En enc) esz H' v' (l ++ l2) ∧ OwnS N v' ∧
      (∀ j, j < H.length → j ∉ idsOf v → H'[j]? = H[j]?) ∧ H.length ≤ H'.length ∧ (∀ j ∈ idsOf v', j ∈ idsOf v ∨ H.length ≤ j) ∧ ∀ H0 : Hp, H0.length ≤ N → H0 <+: H → H0 <+: H' := by
  obtain ⟨cs, hsrc, hcs, hel⟩ := h2.src
  by_cases hn : l2.length = 0
  · have : l2 = [] := List.eq_nil_of_length_eq_zero hn
    subst this
    refine ⟨v, H, fun s x y hH hx hy => ?_, by simpa using h, ho, fun _ _ _ => rfl, Nat.le_refl _, fun j hj => .inl hj, fun _ _ h => h⟩
    subst hH
    unfold appK
    rw [hx, hy, hsrc]
    rcases h with ⟨rfl, _⟩ | ⟨_, _, _, _, rfl, _⟩ <;> rfl
  · obtain ⟨v', H', h1, h2'⟩ := h.app (m := m) (n := 1) (bytes := bytes) (l2 := l2) (cs := cs) ho hN hw (fun _ => chunks_scal he h0 hcs hel) (by omega) hcs hel hb hb2
    exact ⟨v', H', fun s x y hH hx hy => h1 s x y hH hx (by rw [hy]; exact hsrc), h2'⟩

theorem chunk_at {o : List Value} {p n k : Nat} (h : k < n) : ((o.drop p).take n)[k]? = o[p + k]? := by rw [take_drop_get, if_pos h]

end
end Go.Proofs.Ytjepmnmakemfoaa.Ev

/- Terms within longer texts; what was written is read back: plain. -/
namespace Go.Proofs.Ytjepmnmakemfoaa.Ev
set_option linter.all false
open Go

theorem valB_ext {s y : ByteArray} : ∀ {k : Nat}, k ≤ s.size → valB (s ++ y) k = valB s k
  | 0, _ => rfl
  | k + 1, h => by rw [valB, valB, valB_ext (by omega), cat_left (by omega)]
theorem extract_ext {s y : ByteArray} {a k : Nat} (h : k ≤ s.size) : (s ++ y).extract a k = s.extract a k := by
  refine ByteArray.ext ?_
  rw [ByteArray.data_extract, ByteArray.data_extract, ByteArray.data_append, Array.extract_append]
  have : s.size = s.data.size := rfl
  have h2 : k - s.data.size = 0 := by omega
  rw [h2]
  simp
theorem readV.ext {s y : ByteArray} {n k : Nat} (h : readV s n k) : readV (s ++ y) n k := by
  obtain ⟨h1, h2, h3, h4, h5⟩ := h
  refine ⟨h1, h2, by rw [ByteArray.size_append]; omega, by rw [valB_ext h3]; exact h4, ?_⟩
  unfold isV
  rw [valB_ext h3, extract_ext h3]
  exact h5
end Go.Proofs.Ytjepmnmakemfoaa.Ev

/- An element read and written; the front of a row of one's own; shared. -/
namespace Go.Proofs.Ytjepmnmakemfoaa.Ev
set_option linter.all false
open Go

theorem Sl.both {α : Type} {R : α → List Value → Prop} {esz : Nat} {H : Hp} {v : Value} {l : List α} (h : Sl R esz H v l) {i : Nat} (hi : i < l.length) : ∃ id p o, H[id]? = some o ∧ p + esz ≤ o.length ∧ idsOf v = [id] ∧ R l[i] ((o.drop p).take esz) ∧
    (∀ (s : St) (x y : X), exv s.ρ x = some v → exv s.ρ y = some (.int .i64 i) → iadrK s esz x y = some (.val (.pointer (some ⟨id, p, some o.length⟩)), s)) ∧
    ∀ a cs, cs.length = esz → R a cs → Sl R esz (H.set id (spl o p cs)) v (l.set i a) := by
  obtain ⟨id, p, o, h1, h2, h3, h4, h5⟩ := h.store hi
  obtain ⟨id', p', o', g1, g2, g3, g4⟩ := h.elem (List.getElem?_eq_getElem hi)
  have e1 := h4 { ρ := fun t => if t = 0 then .val v else .val (.int .i64 i), gn := 0, H := [] } (.t 0) (.t 1) rfl rfl
  have e2 := g4 { ρ := fun t => if t = 0 then .val v else .val (.int .i64 i), gn := 0, H := [] } (.t 0) (.t 1) rfl rfl
  rw [e1] at e2
  simp only [Option.some.injEq, Prod.mk.injEq, FV.val.injEq, Value.pointer.injEq, Addr.mk.injEq, and_true] at e2
  obtain ⟨rfl, rfl, _⟩ := e2
  rw [h1] at g1
  cases g1
  exact ⟨id, p, o, h1, h2, h3, g2, h4, h5⟩
theorem spl_one {o cs : List Value} {p n j : Nat} {x : Value} (hc : (o.drop p).take n = cs) (hj : j < n) (hl : p + n ≤ o.length) : spl o (p + j) [x] = spl o p (cs.set j x) := by
  have hcl : cs.length = n := by rw [← hc, List.length_take, List.length_drop]; omega
  refine List.ext_getElem? fun k => ?_
  rw [spl_get, spl_get, List.length_set, hcl]
  by_cases hk : p ≤ k ∧ k < p + n
  · have hko : k < o.length := by omega
    rw [if_pos hk]
    simp only [if_pos hko]
    obtain ⟨hk1, hk2⟩ := hk
    by_cases hkj : k = p + j
    · subst hkj
      rw [if_pos (by simp), Nat.add_sub_cancel_left, List.getElem?_set_self (by omega), Nat.sub_self]
      rfl
    · rw [if_neg (by simp; omega), List.getElem?_set_ne (by omega), ← hc, chunk_at (by omega)]
      congr 1
      omega
  · rw [if_neg hk, if_neg (by simp; omega)]


end Go.Proofs.Ytjepmnmakemfoaa.Ev

/- The machine's rules under one name. -/
namespace Go.Proofs.Ytjepmnmakemfoaa.Ev
set_option linter.all false
open Go
attribute [go_sem] go_nil go_blk go_skip go_ret go_exit go_seq go_block go_reg go_r0 go_r go_d0 go_d go_e0 go_e box2 Option.isSome_some Nat.le_refl go_cond go_o go_g aft_some cnd_bool grd_bool grd_tup brT_true brT_false brT_not thr_exit thr_c thr_nil stp stepK movK mv1 ex exv exvs upd_some upd_none ini St.val binK binV ofV pickK unK unV beqK beq_true beq_false if_true if_false List.getElem?_cons_zero List.getElem?_cons_succ loadK adr deref Ad.fv Ad.live fadrK List.length_cons List.length_nil List.drop_zero List.drop_succ_cons List.take_succ_cons List.take_zero Nat.zero_add Nat.add_zero aeqK agEq scEq boxVK newVK exc vc_agg vc_int vc_bool vc_str vc_ptr vc_sl vc_fn boxOf adInf List.reverse_cons List.reverse_nil List.nil_append List.cons_append extK Bool.and_true Bool.true_and Bool.not_true Bool.not_false resT resVs resV true_and and_true storeK spl_nil spl_z spl_1 spl_2 spl_3 spl_4 spl_5 spl_6 spl_7 spl_8 scal_int scal_bool scal_str scal_nil implies_true Bool.and_self Post_ret Post_normal PostS_ret PostS_normal retT_true retT_false flat_bool flat_int flat_str List.take_length decide_true decide_false Option.some.injEq Value.bool.injEq Value.int.injEq Bool.false_and Bool.and_false not_false_eq_true not_true_eq_false toIntK List.length_set Bool.not_eq_true Bool.not_eq_false List.all_cons List.all_nil exps fillL buildK strK nilcK fnK callVT List.size_toArray List.append_nil List.singleton_append boxOK newOK List.isEmpty_nil List.isEmpty_cons mkVK mkOK mkCells zeros_0 zeros_1 zeros_2 zeros_3 zeros_4 List.map_cons List.map_nil
end Go.Proofs.Ytjepmnmakemfoaa.Ev

/- Code of the program's functions, as the small machine has it: written by mkcode.py. -/
namespace Go.Proofs.Ytjepmnmakemfoaa.Ev
set_option linter.all false
open Go
def c8 : CF := ⟨66, (.seq (.reg false [⟨(some 2), .none, (.mov (.c (.bool false))), 0, []⟩]) (.seq (.seq (.reg false [⟨(some 11), .none, (.mov (.t 0)), 0, []⟩, ⟨(some 12), .none, (.lenT (.t 11)), 1, []⟩, ⟨(some 13), .none, (.bin .gtr (.t 12) (.c (.int .i64 1048576))), 2, []⟩]) (.cond (.t 13) (.seq (.reg false [⟨(some 2), .none, (.mov (.c (.bool true))), 0, []⟩]) .ret) .skip)) (.seq (.reg false [⟨(some 15), .none, (.mov (.t 0)), 0, []⟩, ⟨(some 16), .none, (.call 31 [(.t 15)]), 1, []⟩, ⟨(some 14), .none, (.mov (.t 16)), 2, []⟩, ⟨(some 17), .none, (.ext (.t 14) 0), 3, []⟩, ⟨(some 18), .none, (.ext (.t 14) 1), 4, []⟩, ⟨(some 3), .none, (.mov (.t 17)), 5, []⟩, ⟨(some 4), .none, (.mov (.t 18)), 6, []⟩]) (.seq (.reg false [⟨(some 20), .none, (.mov (.t 0)), 0, []⟩, ⟨(some 21), .none, (.call 32 [(.t 20)]), 1, []⟩, ⟨(some 19), .none, (.mov (.t 21)), 2, []⟩, ⟨(some 22), .none, (.ext (.t 19) 0), 3, []⟩, ⟨(some 23), .none, (.ext (.t 19) 1), 4, []⟩, ⟨(some 5), .none, (.mov (.t 22)), 5, []⟩, ⟨(some 6), .none, (.mov (.t 23)), 6, []⟩]) (.seq (.seq (.reg false [⟨(some 24), .none, (.mov (.t 5)), 0, []⟩, ⟨(some 25), .none, (.mov (.t 3)), 1, []⟩, ⟨(some 26), .none, (.call 19 [(.t 24), (.t 25)]), 2, []⟩, ⟨(some 27), .none, (.un .not (.t 26)), 3, []⟩, ⟨(some 28), .none, (.mov (.t 27)), 4, []⟩, ⟨(some 29), (.some (28, false)), (.mov (.t 6)), 5, []⟩, ⟨(some 30), (.some (28, false)), (.mov (.t 4)), 6, []⟩, ⟨(some 31), (.some (28, false)), (.beq true (.t 29) (.t 30)), 7, []⟩, ⟨(some 32), .none, (.pick (.t 28) (.c (.bool true)) (.t 31)), 8, []⟩]) (.cond (.t 32) (.seq (.reg false [⟨(some 2), .none, (.mov (.c (.bool false))), 0, []⟩]) .ret) .skip)) (.seq (.reg false [⟨(some 7), .none, (.mov (.c (.int .i64 1))), 0, []⟩]) (.seq (.reg false [⟨(some 33), .none, (.mov (.t 5)), 0, []⟩, ⟨(some 34), .none, (.mov (.t 7)), 1, []⟩, ⟨(some 35), .none, (.call 29 [(.t 33), (.t 34)]), 2, []⟩, ⟨(some 7), .none, (.mov (.t 35)), 3, []⟩]) (.seq (.reg false [⟨(some 8), .none, (.mov (.c (.int .i64 1))), 0, []⟩]) (.seq (.reg false [⟨(some 36), .none, (.mov (.t 5)), 0, []⟩, ⟨(some 37), .none, (.mov (.t 8)), 1, []⟩, ⟨(some 38), .none, (.call 30 [(.t 36), (.t 37)]), 2, []⟩, ⟨(some 8), .none, (.mov (.t 38)), 3, []⟩]) (.seq (.seq (.reg false [⟨(some 39), .none, (.mov (.t 8)), 0, []⟩, ⟨(some 40), .none, (.bin .lss (.t 39) (.c (.int .i64 0))), 1, []⟩]) (.cond (.t 40) (.seq (.reg false [⟨(some 2), .none, (.mov (.c (.bool false))), 0, []⟩]) .ret) .skip)) (.seq (.seq (.reg false [⟨(some 41), .none, (.mov (.t 8)), 0, []⟩, ⟨(some 42), .none, (.mov (.t 7)), 1, []⟩, ⟨(some 43), .none, (.bin .neq (.t 41) (.t 42)), 2, []⟩]) (.cond (.t 43) (.seq (.reg false [⟨(some 2), .none, (.mov (.c (.bool false))), 0, []⟩]) .ret) .skip)) (.seq (.reg false [⟨(some 45), .none, (.mov (.t 0)), 0, []⟩, ⟨(some 46), .none, (.call 32 [(.t 45)]), 1, []⟩, ⟨(some 44), .none, (.mov (.t 46)), 2, []⟩, ⟨(some 47), .none, (.ext (.t 44) 0), 3, []⟩, ⟨(some 48), .none, (.ext (.t 44) 1), 4, []⟩, ⟨(some 9), .none, (.mov (.t 47)), 5, []⟩, ⟨(some 10), .none, (.mov (.t 48)), 6, []⟩]) (.seq (.seq (.reg false [⟨(some 49), .none, (.mov (.t 9)), 0, []⟩, ⟨(some 50), .none, (.mov (.t 3)), 1, []⟩, ⟨(some 51), .none, (.call 19 [(.t 49), (.t 50)]), 2, []⟩, ⟨(some 52), .none, (.un .not (.t 51)), 3, []⟩, ⟨(some 53), .none, (.mov (.t 52)), 4, []⟩, ⟨(some 54), (.some (53, false)), (.mov (.t 10)), 5, []⟩, ⟨(some 55), (.some (53, false)), (.mov (.t 4)), 6, []⟩, ⟨(some 56), (.some (53, false)), (.beq true (.t 54) (.t 55)), 7, []⟩, ⟨(some 57), .none, (.pick (.t 53) (.c (.bool true)) (.t 56)), 8, []⟩]) (.cond (.t 57) (.seq (.reg false [⟨(some 2), .none, (.mov (.c (.bool false))), 0, []⟩]) .ret) .skip)) (.seq (.reg false [⟨(some 8), .none, (.mov (.c (.int .i64 1))), 0, []⟩]) (.seq (.reg false [⟨(some 58), .none, (.mov (.t 5)), 0, []⟩, ⟨(some 59), .none, (.mov (.t 8)), 1, []⟩, ⟨(some 60), .none, (.call 30 [(.t 58), (.t 59)]), 2, []⟩, ⟨(some 8), .none, (.mov (.t 60)), 3, []⟩]) (.seq (.seq (.reg false [⟨(some 61), .none, (.mov (.t 8)), 0, []⟩, ⟨(some 62), .none, (.bin .lss (.t 61) (.c (.int .i64 0))), 1, []⟩]) (.cond (.t 62) (.seq (.reg false [⟨(some 2), .none, (.mov (.c (.bool false))), 0, []⟩]) .ret) .skip)) (.seq (.seq (.reg false [⟨(some 63), .none, (.mov (.t 8)), 0, []⟩, ⟨(some 64), .none, (.mov (.t 7)), 1, []⟩, ⟨(some 65), .none, (.bin .neq (.t 63) (.t 64)), 2, []⟩]) (.cond (.t 65) (.seq (.reg false [⟨(some 2), .none, (.mov (.c (.bool false))), 0, []⟩]) .ret) .skip)) (.seq (.reg false [⟨(some 2), .none, (.mov (.c (.bool true))), 0, []⟩]) .ret)))))))))))))))))), [(.t 2)]⟩
theorem k8 : EE.fns 8 = some c8 := by kernel_rfl
def c16 : CF := ⟨85, (.seq (.reg false [⟨(some 2), .none, (.mov (.c (.bool false))), 0, []⟩]) (.seq (.seq (.reg false [⟨(some 6), .none, (.mov (.t 0)), 0, []⟩, ⟨(some 7), .none, (.lenS (.t 6)), 1, []⟩, ⟨(some 8), .none, (.bin .gtr (.t 7) (.c (.int .i64 20))), 2, []⟩]) (.cond (.t 8) (.seq (.reg false [⟨(some 2), .none, (.mov (.c (.bool false))), 0, []⟩]) .ret) .skip)) (.seq (.seq (.reg false [⟨(some 3), .none, (.mov (.c (.int .i64 0))), 0, []⟩]) (.block 0 (.loop (.seq (.seq (.reg false [⟨(some 9), .none, (.mov (.t 3)), 0, []⟩, ⟨(some 10), .none, (.mov (.t 0)), 1, []⟩, ⟨(some 11), .none, (.lenS (.t 10)), 2, []⟩, ⟨(some 12), .none, (.bin .lss (.t 9) (.t 11)), 3, []⟩]) (.cond (.t 12) .skip (.exit 0))) (.seq (.block 1 (.seq (.reg false [⟨(some 15), .none, (.mov (.t 0)), 0, []⟩, ⟨(some 16), .none, (.mov (.t 3)), 1, []⟩, ⟨(some 17), .none, (.iadr 3 (.t 15) (.t 16)), 2, []⟩, ⟨(some 18), .none, (.load 3 true (.t 17)), 3, []⟩, ⟨(some 4), .none, (.newV [(.int .i64 0), (.int .i64 0), (.int .i64 0)]), 4, []⟩, ⟨.none, .none, (.store 3 (.t 4) (.t 18)), 5, []⟩]) (.seq (.seq (.reg true [⟨(some 19), .none, (.fadr 0 (.t 4)), 0, []⟩, ⟨(some 20), .none, (.load 1 false (.t 19)), 1, [0]⟩, ⟨(some 21), .none, (.call 52 [(.t 20), (.c (.int .i64 0)), (.c (.int .i64 99))]), 2, [1, 0]⟩, ⟨(some 22), .none, (.un .not (.t 21)), 3, [2, 1, 0]⟩, ⟨(some 23), .none, (.mov (.t 22)), 4, [3, 2, 1, 0]⟩, ⟨(some 24), (.some (23, false)), (.fadr 1 (.t 4)), 5, [4, 3, 2, 1, 0]⟩, ⟨(some 25), (.some (23, false)), (.load 1 false (.t 24)), 6, [5, 4, 3, 2, 1, 0]⟩, ⟨(some 26), (.some (23, false)), (.call 52 [(.t 25), (.c (.int .i64 1)), (.c (.int .i64 1000))]), 7, [6, 5, 4, 3, 2, 1, 0]⟩, ⟨(some 27), (.some (23, false)), (.un .not (.t 26)), 8, [7, 6, 5, 4, 3, 2, 1, 0]⟩, ⟨(some 28), .none, (.pick (.t 23) (.c (.bool true)) (.t 27)), 9, [4, 3, 2, 1, 0, 8, 7, 6, 5]⟩, ⟨(some 29), .none, (.mov (.t 28)), 10, [9, 4, 3, 2, 1, 0, 8, 7, 6, 5]⟩, ⟨(some 30), (.some (29, false)), (.fadr 2 (.t 4)), 11, [10, 9, 4, 3, 2, 1, 0, 8, 7, 6, 5]⟩, ⟨(some 31), (.some (29, false)), (.load 1 false (.t 30)), 12, [11, 10, 9, 4, 3, 2, 1, 0, 8, 7, 6, 5]⟩, ⟨(some 32), (.some (29, false)), (.call 52 [(.t 31), (.c (.int .i64 1)), (.c (.int .i64 1000000))]), 13, [12, 11, 10, 9, 4, 3, 2, 1, 0, 8, 7, 6, 5]⟩, ⟨(some 33), (.some (29, false)), (.un .not (.t 32)), 14, [13, 12, 11, 10, 9, 4, 3, 2, 1, 0, 8, 7, 6, 5]⟩, ⟨(some 34), .none, (.pick (.t 29) (.c (.bool true)) (.t 33)), 15, [10, 9, 4, 3, 2, 1, 0, 8, 7, 6, 5, 14, 13, 12, 11]⟩, ⟨(some 35), .none, (.mov (.t 34)), 16, [15, 10, 9, 4, 3, 2, 1, 0, 8, 7, 6, 5, 14, 13, 12, 11]⟩, ⟨(some 36), (.some (35, false)), (.mov (.t 3)), 17, [16, 15, 10, 9, 4, 3, 2, 1, 0, 8, 7, 6, 5, 14, 13, 12, 11]⟩, ⟨(some 37), (.some (35, false)), (.bin .gtr (.t 36) (.c (.int .i64 0))), 18, [17, 16, 15, 10, 9, 4, 3, 2, 1, 0, 8, 7, 6, 5, 14, 13, 12, 11]⟩, ⟨(some 38), (.some (35, false)), (.mov (.t 37)), 19, [18, 17, 16, 15, 10, 9, 4, 3, 2, 1, 0, 8, 7, 6, 5, 14, 13, 12, 11]⟩, ⟨(some 39), (.some (38, true)), (.mov (.t 0)), 20, [19, 18, 17, 16, 15, 10, 9, 4, 3, 2, 1, 0, 8, 7, 6, 5, 14, 13, 12, 11]⟩, ⟨(some 40), (.some (38, true)), (.mov (.t 3)), 21, [19, 18, 17, 16, 15, 10, 9, 4, 3, 2, 1, 0, 8, 7, 6, 5, 14, 13, 12, 11]⟩, ⟨(some 41), (.some (38, true)), (.bin .sub (.t 40) (.c (.int .i64 1))), 22, [21, 19, 18, 17, 16, 15, 10, 9, 4, 3, 2, 1, 0, 8, 7, 6, 5, 14, 13, 12, 11]⟩, ⟨(some 42), (.some (38, true)), (.iadr 3 (.t 39) (.t 41)), 23, [20, 19, 18, 17, 16, 15, 10, 9, 4, 3, 2, 1, 0, 8, 7, 6, 5, 14, 13, 12, 11, 22, 21]⟩, ⟨(some 43), (.some (38, true)), (.fadr 0 (.t 42)), 24, [23, 20, 19, 18, 17, 16, 15, 10, 9, 4, 3, 2, 1, 0, 8, 7, 6, 5, 14, 13, 12, 11, 22, 21]⟩, ⟨(some 44), (.some (38, true)), (.load 1 false (.t 43)), 25, [24, 23, 20, 19, 18, 17, 16, 15, 10, 9, 4, 3, 2, 1, 0, 8, 7, 6, 5, 14, 13, 12, 11, 22, 21]⟩, ⟨(some 45), (.some (38, true)), (.fadr 0 (.t 4)), 26, [19, 18, 17, 16, 15, 10, 9, 4, 3, 2, 1, 0, 8, 7, 6, 5, 14, 13, 12, 11]⟩, ⟨(some 46), (.some (38, true)), (.load 1 false (.t 45)), 27, [26, 19, 18, 17, 16, 15, 10, 9, 4, 3, 2, 1, 0, 8, 7, 6, 5, 14, 13, 12, 11]⟩, ⟨(some 47), (.some (38, true)), (.bin .gtr (.t 44) (.t 46)), 28, [25, 24, 23, 20, 19, 18, 17, 16, 15, 10, 9, 4, 3, 2, 1, 0, 8, 7, 6, 5, 14, 13, 12, 11, 22, 21, 27, 26]⟩, ⟨(some 48), (.some (38, true)), (.mov (.t 47)), 29, [28, 25, 24, 23, 20, 19, 18, 17, 16, 15, 10, 9, 4, 3, 2, 1, 0, 8, 7, 6, 5, 14, 13, 12, 11, 22, 21, 27, 26]⟩, ⟨(some 49), (.some (48, false)), (.mov (.t 0)), 30, [29, 28, 25, 24, 23, 20, 19, 18, 17, 16, 15, 10, 9, 4, 3, 2, 1, 0, 8, 7, 6, 5, 14, 13, 12, 11, 22, 21, 27, 26]⟩, ⟨(some 50), (.some (48, false)), (.mov (.t 3)), 31, [29, 28, 25, 24, 23, 20, 19, 18, 17, 16, 15, 10, 9, 4, 3, 2, 1, 0, 8, 7, 6, 5, 14, 13, 12, 11, 22, 21, 27, 26]⟩, ⟨(some 51), (.some (48, false)), (.bin .sub (.t 50) (.c (.int .i64 1))), 32, [31, 29, 28, 25, 24, 23, 20, 19, 18, 17, 16, 15, 10, 9, 4, 3, 2, 1, 0, 8, 7, 6, 5, 14, 13, 12, 11, 22, 21, 27, 26]⟩, ⟨(some 52), (.some (48, false)), (.iadr 3 (.t 49) (.t 51)), 33, [30, 29, 28, 25, 24, 23, 20, 19, 18, 17, 16, 15, 10, 9, 4, 3, 2, 1, 0, 8, 7, 6, 5, 14, 13, 12, 11, 22, 21, 27, 26, 32, 31]⟩, ⟨(some 53), (.some (48, false)), (.fadr 0 (.t 52)), 34, [33, 30, 29, 28, 25, 24, 23, 20, 19, 18, 17, 16, 15, 10, 9, 4, 3, 2, 1, 0, 8, 7, 6, 5, 14, 13, 12, 11, 22, 21, 27, 26, 32, 31]⟩, ⟨(some 54), (.some (48, false)), (.load 1 false (.t 53)), 35, [34, 33, 30, 29, 28, 25, 24, 23, 20, 19, 18, 17, 16, 15, 10, 9, 4, 3, 2, 1, 0, 8, 7, 6, 5, 14, 13, 12, 11, 22, 21, 27, 26, 32, 31]⟩, ⟨(some 55), (.some (48, false)), (.fadr 0 (.t 4)), 36, [29, 28, 25, 24, 23, 20, 19, 18, 17, 16, 15, 10, 9, 4, 3, 2, 1, 0, 8, 7, 6, 5, 14, 13, 12, 11, 22, 21, 27, 26]⟩, ⟨(some 56), (.some (48, false)), (.load 1 false (.t 55)), 37, [36, 29, 28, 25, 24, 23, 20, 19, 18, 17, 16, 15, 10, 9, 4, 3, 2, 1, 0, 8, 7, 6, 5, 14, 13, 12, 11, 22, 21, 27, 26]⟩, ⟨(some 57), (.some (48, false)), (.bin .eql (.t 54) (.t 56)), 38, [35, 34, 33, 30, 29, 28, 25, 24, 23, 20, 19, 18, 17, 16, 15, 10, 9, 4, 3, 2, 1, 0, 8, 7, 6, 5, 14, 13, 12, 11, 22, 21, 27, 26, 32, 31, 37, 36]⟩, ⟨(some 58), (.some (48, false)), (.mov (.t 57)), 39, [38, 35, 34, 33, 30, 29, 28, 25, 24, 23, 20, 19, 18, 17, 16, 15, 10, 9, 4, 3, 2, 1, 0, 8, 7, 6, 5, 14, 13, 12, 11, 22, 21, 27, 26, 32, 31, 37, 36]⟩, ⟨(some 59), (.some (58, true)), (.mov (.t 0)), 40, [39, 38, 35, 34, 33, 30, 29, 28, 25, 24, 23, 20, 19, 18, 17, 16, 15, 10, 9, 4, 3, 2, 1, 0, 8, 7, 6, 5, 14, 13, 12, 11, 22, 21, 27, 26, 32, 31, 37, 36]⟩, ⟨(some 60), (.some (58, true)), (.mov (.t 3)), 41, [39, 38, 35, 34, 33, 30, 29, 28, 25, 24, 23, 20, 19, 18, 17, 16, 15, 10, 9, 4, 3, 2, 1, 0, 8, 7, 6, 5, 14, 13, 12, 11, 22, 21, 27, 26, 32, 31, 37, 36]⟩, ⟨(some 61), (.some (58, true)), (.bin .sub (.t 60) (.c (.int .i64 1))), 42, [41, 39, 38, 35, 34, 33, 30, 29, 28, 25, 24, 23, 20, 19, 18, 17, 16, 15, 10, 9, 4, 3, 2, 1, 0, 8, 7, 6, 5, 14, 13, 12, 11, 22, 21, 27, 26, 32, 31, 37, 36]⟩, ⟨(some 62), (.some (58, true)), (.iadr 3 (.t 59) (.t 61)), 43, [40, 39, 38, 35, 34, 33, 30, 29, 28, 25, 24, 23, 20, 19, 18, 17, 16, 15, 10, 9, 4, 3, 2, 1, 0, 8, 7, 6, 5, 14, 13, 12, 11, 22, 21, 27, 26, 32, 31, 37, 36, 42, 41]⟩, ⟨(some 63), (.some (58, true)), (.fadr 1 (.t 62)), 44, [43, 40, 39, 38, 35, 34, 33, 30, 29, 28, 25, 24, 23, 20, 19, 18, 17, 16, 15, 10, 9, 4, 3, 2, 1, 0, 8, 7, 6, 5, 14, 13, 12, 11, 22, 21, 27, 26, 32, 31, 37, 36, 42, 41]⟩, ⟨(some 64), (.some (58, true)), (.load 1 false (.t 63)), 45, [44, 43, 40, 39, 38, 35, 34, 33, 30, 29, 28, 25, 24, 23, 20, 19, 18, 17, 16, 15, 10, 9, 4, 3, 2, 1, 0, 8, 7, 6, 5, 14, 13, 12, 11, 22, 21, 27, 26, 32, 31, 37, 36, 42, 41]⟩, ⟨(some 65), (.some (58, true)), (.fadr 1 (.t 4)), 46, [39, 38, 35, 34, 33, 30, 29, 28, 25, 24, 23, 20, 19, 18, 17, 16, 15, 10, 9, 4, 3, 2, 1, 0, 8, 7, 6, 5, 14, 13, 12, 11, 22, 21, 27, 26, 32, 31, 37, 36]⟩, ⟨(some 66), (.some (58, true)), (.load 1 false (.t 65)), 47, [46, 39, 38, 35, 34, 33, 30, 29, 28, 25, 24, 23, 20, 19, 18, 17, 16, 15, 10, 9, 4, 3, 2, 1, 0, 8, 7, 6, 5, 14, 13, 12, 11, 22, 21, 27, 26, 32, 31, 37, 36]⟩, ⟨(some 67), (.some (58, true)), (.bin .geq (.t 64) (.t 66)), 48, [45, 44, 43, 40, 39, 38, 35, 34, 33, 30, 29, 28, 25, 24, 23, 20, 19, 18, 17, 16, 15, 10, 9, 4, 3, 2, 1, 0, 8, 7, 6, 5, 14, 13, 12, 11, 22, 21, 27, 26, 32, 31, 37, 36, 42, 41, 47, 46]⟩, ⟨(some 68), (.some (48, false)), (.pick (.t 58) (.t 67) (.c (.bool false))), 49, [39, 38, 35, 34, 33, 30, 29, 28, 25, 24, 23, 20, 19, 18, 17, 16, 15, 10, 9, 4, 3, 2, 1, 0, 8, 7, 6, 5, 14, 13, 12, 11, 22, 21, 27, 26, 32, 31, 37, 36, 48, 45, 44, 43, 40, 42, 41, 47, 46]⟩, ⟨(some 69), (.some (38, true)), (.pick (.t 48) (.c (.bool true)) (.t 68)), 50, [29, 28, 25, 24, 23, 20, 19, 18, 17, 16, 15, 10, 9, 4, 3, 2, 1, 0, 8, 7, 6, 5, 14, 13, 12, 11, 22, 21, 27, 26, 49, 39, 38, 35, 34, 33, 30, 32, 31, 37, 36, 48, 45, 44, 43, 40, 42, 41, 47, 46]⟩, ⟨(some 70), (.some (35, false)), (.pick (.t 38) (.t 69) (.c (.bool false))), 51, [19, 18, 17, 16, 15, 10, 9, 4, 3, 2, 1, 0, 8, 7, 6, 5, 14, 13, 12, 11, 50, 29, 28, 25, 24, 23, 20, 22, 21, 27, 26, 49, 39, 38, 35, 34, 33, 30, 32, 31, 37, 36, 48, 45, 44, 43, 40, 42, 41, 47, 46]⟩, ⟨(some 71), .none, (.pick (.t 35) (.c (.bool true)) (.t 70)), 52, [16, 15, 10, 9, 4, 3, 2, 1, 0, 8, 7, 6, 5, 14, 13, 12, 11, 51, 19, 18, 17, 50, 29, 28, 25, 24, 23, 20, 22, 21, 27, 26, 49, 39, 38, 35, 34, 33, 30, 32, 31, 37, 36, 48, 45, 44, 43, 40, 42, 41, 47, 46]⟩]) (.cond (.t 71) (.seq (.reg false [⟨(some 2), .none, (.mov (.c (.bool false))), 0, []⟩]) .ret) .skip)) (.seq (.reg false [⟨(some 5), .none, (.mov (.c (.int .i64 0))), 0, []⟩]) (.block 2 (.loop (.seq (.seq (.reg false [⟨(some 72), .none, (.mov (.t 5)), 0, []⟩, ⟨(some 73), .none, (.mov (.t 3)), 1, []⟩, ⟨(some 74), .none, (.bin .lss (.t 72) (.t 73)), 2, []⟩]) (.cond (.t 74) .skip (.exit 2))) (.seq (.block 3 (.seq (.reg true [⟨(some 77), .none, (.mov (.t 0)), 0, []⟩, ⟨(some 78), .none, (.mov (.t 5)), 1, []⟩, ⟨(some 79), .none, (.iadr 3 (.t 77) (.t 78)), 2, [0, 1]⟩, ⟨(some 80), .none, (.fadr 2 (.t 79)), 3, [2, 0, 1]⟩, ⟨(some 81), .none, (.load 1 false (.t 80)), 4, [3, 2, 0, 1]⟩, ⟨(some 82), .none, (.fadr 2 (.t 4)), 5, []⟩, ⟨(some 83), .none, (.load 1 false (.t 82)), 6, [5]⟩, ⟨(some 84), .none, (.bin .eql (.t 81) (.t 83)), 7, [4, 3, 2, 0, 1, 6, 5]⟩]) (.cond (.t 84) (.seq (.reg false [⟨(some 2), .none, (.mov (.c (.bool false))), 0, []⟩]) .ret) .skip))) (.reg false [⟨(some 75), .none, (.mov (.t 5)), 0, []⟩, ⟨(some 76), .none, (.bin .add (.t 75) (.c (.int .i64 1))), 1, []⟩, ⟨(some 5), .none, (.mov (.t 76)), 2, []⟩]))))))))) (.reg false [⟨(some 13), .none, (.mov (.t 3)), 0, []⟩, ⟨(some 14), .none, (.bin .add (.t 13) (.c (.int .i64 1))), 1, []⟩, ⟨(some 3), .none, (.mov (.t 14)), 2, []⟩])))))) (.seq (.reg false [⟨(some 2), .none, (.mov (.c (.bool true))), 0, []⟩]) .ret)))), [(.t 2)]⟩
theorem k16 : EE.fns 16 = some c16 := by kernel_rfl
def c17 : CF := ⟨23, (.seq (.reg false [⟨(some 2), .none, (.mov (.c (.slice .none 0 0))), 0, []⟩]) (.seq (.reg false [⟨(some 5), .none, (.mov (.t 0)), 0, []⟩, ⟨(some 6), .none, (.lenS (.t 5)), 1, []⟩, ⟨(some 7), .none, (.makeS 3 24 [(.int .i64 0), (.int .i64 0), (.int .i64 0)] (.t 6) (.t 6)), 2, []⟩, ⟨(some 3), .none, (.mov (.t 7)), 3, []⟩]) (.seq (.seq (.reg false [⟨(some 4), .none, (.mov (.c (.int .i64 0))), 0, []⟩]) (.block 0 (.loop (.seq (.seq (.reg false [⟨(some 8), .none, (.mov (.t 4)), 0, []⟩, ⟨(some 9), .none, (.mov (.t 0)), 1, []⟩, ⟨(some 10), .none, (.lenS (.t 9)), 2, []⟩, ⟨(some 11), .none, (.bin .lss (.t 8) (.t 10)), 3, []⟩]) (.cond (.t 11) .skip (.exit 0))) (.seq (.block 1 (.reg false [⟨(some 14), .none, (.mov (.t 3)), 0, []⟩, ⟨(some 15), .none, (.mov (.t 4)), 1, []⟩, ⟨(some 16), .none, (.mov (.t 0)), 2, []⟩, ⟨(some 17), .none, (.mov (.t 4)), 3, []⟩, ⟨(some 18), .none, (.iadr 3 (.t 16) (.t 17)), 4, []⟩, ⟨(some 19), .none, (.load 3 true (.t 18)), 5, []⟩, ⟨(some 20), .none, (.call 53 [(.t 19)]), 6, []⟩, ⟨(some 21), .none, (.iadr 3 (.t 14) (.t 15)), 7, []⟩, ⟨.none, .none, (.store 3 (.t 21) (.t 20)), 8, []⟩])) (.reg false [⟨(some 12), .none, (.mov (.t 4)), 0, []⟩, ⟨(some 13), .none, (.bin .add (.t 12) (.c (.int .i64 1))), 1, []⟩, ⟨(some 4), .none, (.mov (.t 13)), 2, []⟩])))))) (.seq (.reg false [⟨(some 22), .none, (.mov (.t 3)), 0, []⟩, ⟨(some 2), .none, (.mov (.t 22)), 1, []⟩]) .ret)))), [(.t 2)]⟩
theorem k17 : EE.fns 17 = some c17 := by kernel_rfl
def c18 : CF := ⟨54, (.seq (.reg false [⟨(some 2), .none, (.mov (.c (.bool false))), 0, []⟩]) (.seq (.seq (.reg false [⟨(some 5), .none, (.mov (.t 0)), 0, []⟩, ⟨(some 6), .none, (.lenS (.t 5)), 1, []⟩, ⟨(some 7), .none, (.mov (.c (.int .i64 0))), 2, []⟩]) (.block 0 (.loop (.seq (.reg false [⟨(some 8), .none, (.bin .lss (.t 7) (.t 6)), 0, []⟩]) (.seq (.cond (.t 8) .skip (.exit 0)) (.seq (.block 1 (.seq (.reg false [⟨(some 9), .none, (.mov (.t 7)), 0, []⟩, ⟨(some 10), .none, (.iadr 3 (.t 5) (.t 7)), 1, []⟩, ⟨(some 11), .none, (.load 3 true (.t 10)), 2, []⟩, ⟨(some 4), .none, (.newV [(.int .i64 0), (.int .i64 0), (.int .i64 0)]), 3, []⟩, ⟨(some 3), .none, (.mov (.t 9)), 4, []⟩, ⟨.none, .none, (.store 3 (.t 4) (.t 11)), 5, []⟩]) (.seq (.reg true [⟨(some 12), .none, (.fadr 0 (.t 4)), 0, []⟩, ⟨(some 13), .none, (.load 1 false (.t 12)), 1, [0]⟩, ⟨(some 14), .none, (.call 54 [(.t 13)]), 2, [1, 0]⟩, ⟨(some 15), .none, (.un .not (.t 14)), 3, [2, 1, 0]⟩, ⟨(some 16), .none, (.mov (.t 15)), 4, [3, 2, 1, 0]⟩, ⟨(some 17), (.some (16, false)), (.fadr 1 (.t 4)), 5, [4, 3, 2, 1, 0]⟩, ⟨(some 18), (.some (16, false)), (.load 1 false (.t 17)), 6, [5, 4, 3, 2, 1, 0]⟩, ⟨(some 19), (.some (16, false)), (.call 55 [(.t 18), (.c (.int .i64 1)), (.c (.int .i64 1000))]), 7, [6, 5, 4, 3, 2, 1, 0]⟩, ⟨(some 20), (.some (16, false)), (.un .not (.t 19)), 8, [7, 6, 5, 4, 3, 2, 1, 0]⟩, ⟨(some 21), .none, (.pick (.t 16) (.c (.bool true)) (.t 20)), 9, [4, 3, 2, 1, 0, 8, 7, 6, 5]⟩, ⟨(some 22), .none, (.mov (.t 21)), 10, [9, 4, 3, 2, 1, 0, 8, 7, 6, 5]⟩, ⟨(some 23), (.some (22, false)), (.fadr 2 (.t 4)), 11, [10, 9, 4, 3, 2, 1, 0, 8, 7, 6, 5]⟩, ⟨(some 24), (.some (22, false)), (.load 1 false (.t 23)), 12, [11, 10, 9, 4, 3, 2, 1, 0, 8, 7, 6, 5]⟩, ⟨(some 25), (.some (22, false)), (.call 56 [(.t 24)]), 13, [12, 11, 10, 9, 4, 3, 2, 1, 0, 8, 7, 6, 5]⟩, ⟨(some 26), (.some (22, false)), (.un .not (.t 25)), 14, [13, 12, 11, 10, 9, 4, 3, 2, 1, 0, 8, 7, 6, 5]⟩, ⟨(some 27), .none, (.pick (.t 22) (.c (.bool true)) (.t 26)), 15, [10, 9, 4, 3, 2, 1, 0, 8, 7, 6, 5, 14, 13, 12, 11]⟩, ⟨(some 28), .none, (.mov (.t 27)), 16, [15, 10, 9, 4, 3, 2, 1, 0, 8, 7, 6, 5, 14, 13, 12, 11]⟩, ⟨(some 29), (.some (28, false)), (.mov (.t 3)), 17, [16, 15, 10, 9, 4, 3, 2, 1, 0, 8, 7, 6, 5, 14, 13, 12, 11]⟩, ⟨(some 30), (.some (28, false)), (.bin .gtr (.t 29) (.c (.int .i64 0))), 18, [17, 16, 15, 10, 9, 4, 3, 2, 1, 0, 8, 7, 6, 5, 14, 13, 12, 11]⟩, ⟨(some 31), (.some (28, false)), (.mov (.t 30)), 19, [18, 17, 16, 15, 10, 9, 4, 3, 2, 1, 0, 8, 7, 6, 5, 14, 13, 12, 11]⟩, ⟨(some 32), (.some (31, true)), (.mov (.t 0)), 20, [19, 18, 17, 16, 15, 10, 9, 4, 3, 2, 1, 0, 8, 7, 6, 5, 14, 13, 12, 11]⟩, ⟨(some 33), (.some (31, true)), (.mov (.t 3)), 21, [19, 18, 17, 16, 15, 10, 9, 4, 3, 2, 1, 0, 8, 7, 6, 5, 14, 13, 12, 11]⟩, ⟨(some 34), (.some (31, true)), (.bin .sub (.t 33) (.c (.int .i64 1))), 22, [21, 19, 18, 17, 16, 15, 10, 9, 4, 3, 2, 1, 0, 8, 7, 6, 5, 14, 13, 12, 11]⟩, ⟨(some 35), (.some (31, true)), (.iadr 3 (.t 32) (.t 34)), 23, [20, 19, 18, 17, 16, 15, 10, 9, 4, 3, 2, 1, 0, 8, 7, 6, 5, 14, 13, 12, 11, 22, 21]⟩, ⟨(some 36), (.some (31, true)), (.load 3 true (.t 35)), 24, [23, 20, 19, 18, 17, 16, 15, 10, 9, 4, 3, 2, 1, 0, 8, 7, 6, 5, 14, 13, 12, 11, 22, 21]⟩, ⟨(some 37), (.some (31, true)), (.load 3 true (.t 4)), 25, [19, 18, 17, 16, 15, 10, 9, 4, 3, 2, 1, 0, 8, 7, 6, 5, 14, 13, 12, 11]⟩, ⟨(some 38), (.some (31, true)), (.call 57 [(.t 36), (.t 37)]), 26, [24, 23, 20, 19, 18, 17, 16, 15, 10, 9, 4, 3, 2, 1, 0, 8, 7, 6, 5, 14, 13, 12, 11, 22, 21, 25]⟩, ⟨(some 39), (.some (31, true)), (.bin .geq (.t 38) (.c (.int .i64 0))), 27, [26, 24, 23, 20, 19, 18, 17, 16, 15, 10, 9, 4, 3, 2, 1, 0, 8, 7, 6, 5, 14, 13, 12, 11, 22, 21, 25]⟩, ⟨(some 40), (.some (28, false)), (.pick (.t 31) (.t 39) (.c (.bool false))), 28, [19, 18, 17, 16, 15, 10, 9, 4, 3, 2, 1, 0, 8, 7, 6, 5, 14, 13, 12, 11, 27, 26, 24, 23, 20, 22, 21, 25]⟩, ⟨(some 41), .none, (.pick (.t 28) (.c (.bool true)) (.t 40)), 29, [16, 15, 10, 9, 4, 3, 2, 1, 0, 8, 7, 6, 5, 14, 13, 12, 11, 28, 19, 18, 17, 27, 26, 24, 23, 20, 22, 21, 25]⟩, ⟨(some 42), .none, (.mov (.t 41)), 30, [29, 16, 15, 10, 9, 4, 3, 2, 1, 0, 8, 7, 6, 5, 14, 13, 12, 11, 28, 19, 18, 17, 27, 26, 24, 23, 20, 22, 21, 25]⟩, ⟨(some 43), (.some (42, false)), (.mov (.t 0)), 31, [30, 29, 16, 15, 10, 9, 4, 3, 2, 1, 0, 8, 7, 6, 5, 14, 13, 12, 11, 28, 19, 18, 17, 27, 26, 24, 23, 20, 22, 21, 25]⟩, ⟨(some 44), (.some (42, false)), (.mov (.t 3)), 32, [30, 29, 16, 15, 10, 9, 4, 3, 2, 1, 0, 8, 7, 6, 5, 14, 13, 12, 11, 28, 19, 18, 17, 27, 26, 24, 23, 20, 22, 21, 25]⟩, ⟨(some 45), (.some (42, false)), (.slc 3 (.t 43) .none (.some (.t 44))), 33, [31, 30, 29, 16, 15, 10, 9, 4, 3, 2, 1, 0, 8, 7, 6, 5, 14, 13, 12, 11, 28, 19, 18, 17, 27, 26, 24, 23, 20, 22, 21, 25, 32]⟩, ⟨(some 46), (.some (42, false)), (.fadr 2 (.t 4)), 34, [30, 29, 16, 15, 10, 9, 4, 3, 2, 1, 0, 8, 7, 6, 5, 14, 13, 12, 11, 28, 19, 18, 17, 27, 26, 24, 23, 20, 22, 21, 25]⟩, ⟨(some 47), (.some (42, false)), (.load 1 false (.t 46)), 35, [34, 30, 29, 16, 15, 10, 9, 4, 3, 2, 1, 0, 8, 7, 6, 5, 14, 13, 12, 11, 28, 19, 18, 17, 27, 26, 24, 23, 20, 22, 21, 25]⟩, ⟨(some 48), (.some (42, false)), (.call 58 [(.t 45), (.t 47)]), 36, [33, 31, 30, 29, 16, 15, 10, 9, 4, 3, 2, 1, 0, 8, 7, 6, 5, 14, 13, 12, 11, 28, 19, 18, 17, 27, 26, 24, 23, 20, 22, 21, 25, 32, 35, 34]⟩, ⟨(some 49), .none, (.pick (.t 42) (.c (.bool true)) (.t 48)), 37, [30, 29, 16, 15, 10, 9, 4, 3, 2, 1, 0, 8, 7, 6, 5, 14, 13, 12, 11, 28, 19, 18, 17, 27, 26, 24, 23, 20, 22, 21, 25, 36, 33, 31, 32, 35, 34]⟩]) (.cond (.t 49) (.seq (.reg false [⟨(some 2), .none, (.mov (.c (.bool false))), 0, []⟩]) .ret) .skip)))) (.reg false [⟨(some 50), .none, (.bin .add (.t 7) (.c (.int .i64 1))), 0, []⟩, ⟨(some 7), .none, (.mov (.t 50)), 1, []⟩]))))))) (.seq (.reg false [⟨(some 51), .none, (.mov (.t 0)), 0, []⟩, ⟨(some 52), .none, (.lenS (.t 51)), 1, []⟩, ⟨(some 53), .none, (.bin .leq (.t 52) (.c (.int .i64 20))), 2, []⟩, ⟨(some 2), .none, (.mov (.t 53)), 3, []⟩]) .ret))), [(.t 2)]⟩
theorem k18 : EE.fns 18 = some c18 := by kernel_rfl
def c52 : CF := ⟨15, (.seq (.reg false [⟨(some 6), .none, (.mov (.c (.bool false))), 0, []⟩]) (.seq (.reg false [⟨(some 7), .none, (.mov (.t 0)), 0, []⟩, ⟨(some 8), .none, (.mov (.t 1)), 1, []⟩, ⟨(some 9), .none, (.bin .geq (.t 7) (.t 8)), 2, []⟩, ⟨(some 10), .none, (.mov (.t 9)), 3, []⟩, ⟨(some 11), (.some (10, true)), (.mov (.t 0)), 4, []⟩, ⟨(some 12), (.some (10, true)), (.mov (.t 2)), 5, []⟩, ⟨(some 13), (.some (10, true)), (.bin .leq (.t 11) (.t 12)), 6, []⟩, ⟨(some 14), .none, (.pick (.t 10) (.t 13) (.c (.bool false))), 7, []⟩, ⟨(some 6), .none, (.mov (.t 14)), 8, []⟩]) .ret)), [(.t 6)]⟩
theorem k52 : EE.fns 52 = some c52 := by kernel_rfl
def c54 : CF := ⟨5, (.seq (.reg false [⟨(some 2), .none, (.mov (.c (.bool false))), 0, []⟩]) (.seq (.reg false [⟨(some 3), .none, (.mov (.t 0)), 0, []⟩, ⟨(some 4), .none, (.call 55 [(.t 3), (.c (.int .i64 0)), (.c (.int .i64 99))]), 1, []⟩, ⟨(some 2), .none, (.mov (.t 4)), 2, []⟩]) .ret)), [(.t 2)]⟩
theorem k54 : EE.fns 54 = some c54 := by kernel_rfl
def c55 : CF := ⟨15, (.seq (.reg false [⟨(some 6), .none, (.mov (.c (.bool false))), 0, []⟩]) (.seq (.reg false [⟨(some 7), .none, (.mov (.t 0)), 0, []⟩, ⟨(some 8), .none, (.mov (.t 1)), 1, []⟩, ⟨(some 9), .none, (.bin .geq (.t 7) (.t 8)), 2, []⟩, ⟨(some 10), .none, (.mov (.t 9)), 3, []⟩, ⟨(some 11), (.some (10, true)), (.mov (.t 0)), 4, []⟩, ⟨(some 12), (.some (10, true)), (.mov (.t 2)), 5, []⟩, ⟨(some 13), (.some (10, true)), (.bin .leq (.t 11) (.t 12)), 6, []⟩, ⟨(some 14), .none, (.pick (.t 10) (.t 13) (.c (.bool false))), 7, []⟩, ⟨(some 6), .none, (.mov (.t 14)), 8, []⟩]) .ret)), [(.t 6)]⟩
theorem k55 : EE.fns 55 = some c55 := by kernel_rfl
def c56 : CF := ⟨5, (.seq (.reg false [⟨(some 2), .none, (.mov (.c (.bool false))), 0, []⟩]) (.seq (.reg false [⟨(some 3), .none, (.mov (.t 0)), 0, []⟩, ⟨(some 4), .none, (.call 55 [(.t 3), (.c (.int .i64 1)), (.c (.int .i64 1000000))]), 1, []⟩, ⟨(some 2), .none, (.mov (.t 4)), 2, []⟩]) .ret)), [(.t 2)]⟩
theorem k56 : EE.fns 56 = some c56 := by kernel_rfl
def c57 : CF := ⟨20, (.seq (.reg false [⟨(some 2), .none, (.boxV (.t 0)), 0, []⟩, ⟨(some 3), .none, (.boxV (.t 1)), 1, []⟩, ⟨(some 4), .none, (.mov (.c (.int .i64 0))), 2, []⟩]) (.seq (.seq (.reg false [⟨(some 5), .none, (.fadr 0 (.t 2)), 0, []⟩, ⟨(some 6), .none, (.load 1 false (.t 5)), 1, []⟩, ⟨(some 7), .none, (.fadr 0 (.t 3)), 2, []⟩, ⟨(some 8), .none, (.load 1 false (.t 7)), 3, []⟩, ⟨(some 9), .none, (.bin .neq (.t 6) (.t 8)), 4, []⟩]) (.cond (.t 9) (.seq (.reg false [⟨(some 10), .none, (.fadr 0 (.t 2)), 0, []⟩, ⟨(some 11), .none, (.load 1 false (.t 10)), 1, []⟩, ⟨(some 12), .none, (.fadr 0 (.t 3)), 2, []⟩, ⟨(some 13), .none, (.load 1 false (.t 12)), 3, []⟩, ⟨(some 14), .none, (.bin .sub (.t 11) (.t 13)), 4, []⟩, ⟨(some 4), .none, (.mov (.t 14)), 5, []⟩]) .ret) .skip)) (.seq (.reg false [⟨(some 15), .none, (.fadr 1 (.t 2)), 0, []⟩, ⟨(some 16), .none, (.load 1 false (.t 15)), 1, []⟩, ⟨(some 17), .none, (.fadr 1 (.t 3)), 2, []⟩, ⟨(some 18), .none, (.load 1 false (.t 17)), 3, []⟩, ⟨(some 19), .none, (.bin .sub (.t 16) (.t 18)), 4, []⟩, ⟨(some 4), .none, (.mov (.t 19)), 5, []⟩]) .ret))), [(.t 4)]⟩
theorem k57 : EE.fns 57 = some c57 := by kernel_rfl
def c58 : CF := ⟨8, (.seq (.reg false [⟨(some 3), .none, (.boxO (.t 1)), 0, []⟩, ⟨(some 4), .none, (.mov (.c (.bool false))), 1, []⟩]) (.seq (.reg false [⟨(some 5), .none, (.mov (.t 0)), 0, []⟩, ⟨(some 6), .none, (.fn 86 [(.t 3)]), 1, []⟩, ⟨(some 7), .none, (.call 85 [(.t 5), (.t 6)]), 2, []⟩, ⟨(some 4), .none, (.mov (.t 7)), 3, []⟩]) .ret)), [(.t 4)]⟩
theorem k58 : EE.fns 58 = some c58 := by kernel_rfl
def c85 : CF := ⟨9, (.seq (.reg false [⟨(some 4), .none, (.mov (.c (.bool false))), 0, []⟩]) (.seq (.reg false [⟨(some 5), .none, (.mov (.t 0)), 0, []⟩, ⟨(some 6), .none, (.mov (.t 1)), 1, []⟩, ⟨(some 7), .none, (.call 96 [(.t 5), (.t 6)]), 2, []⟩, ⟨(some 8), .none, (.bin .geq (.t 7) (.c (.int .i64 0))), 3, []⟩, ⟨(some 4), .none, (.mov (.t 8)), 4, []⟩]) .ret)), [(.t 4)]⟩
theorem k85 : EE.fns 85 = some c85 := by kernel_rfl
def c86 : CF := ⟨8, (.seq (.reg false [⟨(some 2), .none, (.boxV (.t 0)), 0, []⟩, ⟨(some 3), .none, (.mov (.c (.bool false))), 1, []⟩]) (.seq (.reg false [⟨(some 4), .none, (.fadr 2 (.t 2)), 0, []⟩, ⟨(some 5), .none, (.load 1 false (.t 4)), 1, []⟩, ⟨(some 6), .none, (.load 1 false (.t 1)), 2, []⟩, ⟨(some 7), .none, (.bin .eql (.t 5) (.t 6)), 3, []⟩, ⟨(some 3), .none, (.mov (.t 7)), 4, []⟩]) .ret)), [(.t 3)]⟩
theorem k86 : EE.fns 86 = some c86 := by kernel_rfl
def c96 : CF := ⟨19, (.seq (.reg false [⟨(some 4), .none, (.mov (.c (.int .i64 0))), 0, []⟩]) (.seq (.seq (.reg false [⟨(some 6), .none, (.mov (.t 0)), 0, []⟩, ⟨(some 7), .none, (.lenS (.t 6)), 1, []⟩, ⟨(some 8), .none, (.mov (.c (.int .i64 0))), 2, []⟩]) (.block 0 (.loop (.seq (.reg false [⟨(some 9), .none, (.bin .lss (.t 8) (.t 7)), 0, []⟩]) (.seq (.cond (.t 9) .skip (.exit 0)) (.seq (.block 1 (.seq (.reg false [⟨(some 10), .none, (.mov (.t 8)), 0, []⟩, ⟨(some 5), .none, (.mov (.t 10)), 1, []⟩]) (.seq (.reg false [⟨(some 11), .none, (.mov (.t 1)), 0, []⟩, ⟨(some 12), .none, (.mov (.t 0)), 1, []⟩, ⟨(some 13), .none, (.mov (.t 5)), 2, []⟩, ⟨(some 14), .none, (.iadr 3 (.t 12) (.t 13)), 3, []⟩, ⟨(some 15), .none, (.load 3 true (.t 14)), 4, []⟩, ⟨(some 16), .none, (.callV (.t 11) [(.t 15)]), 5, []⟩]) (.cond (.t 16) (.seq (.reg false [⟨(some 17), .none, (.mov (.t 5)), 0, []⟩, ⟨(some 4), .none, (.mov (.t 17)), 1, []⟩]) .ret) .skip)))) (.reg false [⟨(some 18), .none, (.bin .add (.t 8) (.c (.int .i64 1))), 0, []⟩, ⟨(some 8), .none, (.mov (.t 18)), 1, []⟩]))))))) (.seq (.reg false [⟨(some 4), .none, (.mov (.c (.int .i64 (-1)))), 0, []⟩]) .ret))), [(.t 4)]⟩
theorem k96 : EE.fns 96 = some c96 := by kernel_rfl
def c33 : CF := ⟨6, (.seq (.reg false [⟨(some 2), .none, (.mov (.c (.bool false))), 0, []⟩]) (.seq (.reg false [⟨(some 3), .none, (.mov (.t 0)), 0, []⟩, ⟨(some 4), .none, (.lenS (.t 3)), 1, []⟩, ⟨(some 5), .none, (.bin .gtr (.t 4) (.c (.int .i64 1048576))), 2, []⟩, ⟨(some 2), .none, (.mov (.t 5)), 3, []⟩]) .ret)), [(.t 2)]⟩
theorem k33 : EE.fns 33 = some c33 := by kernel_rfl
end Go.Proofs.Ytjepmnmakemfoaa.Ev

/- Numbers as bytes: the program's and the reference's. -/
namespace Go.Proofs.Ytjepmnmakemfoaa.Ev
set_option linter.all false
open Go
set_option maxRecDepth 4000

theorem f52 {H : Hp} {a b c : Int} : Scal EE 52 [.int .i64 a, .int .i64 b, .int .i64 c] H (.bool (decide (a ≥ b) && decide (a ≤ c))) := by
  refine scal_ok rfl rfl k52 (by simp [c52]) rfl fun m hw => ?_
  simp only [go_nil, go_blk, go_skip, go_ret, go_exit, go_seq, go_block, go_reg, go_r0, go_r, go_d0, go_d, go_e0, go_e, box2, Option.isSome_some, Nat.le_refl, go_cond, go_o, go_g, aft_some, cnd_bool, grd_bool, grd_tup, brT_true, brT_false, brT_not, thr_exit, thr_c, thr_nil, stp, stepK, movK, mv1, ex, exv, exvs, upd_some, upd_none, ini, St.val, binK, binV, ofV, pickK, unK, unV, beqK, beq_true, beq_false, if_true, if_false, List.getElem?_cons_zero, List.getElem?_cons_succ, ↓reduceIte, Nat.reduceEqDiff, reduceCtorEq, loadK, adr, deref, Ad.fv, Ad.live, fadrK, List.length_cons, List.length_nil, List.drop_zero, List.drop_succ_cons, List.take_succ_cons, List.take_zero, Nat.reduceAdd, Nat.reduceLeDiff, Nat.zero_add, Nat.add_zero, aeqK, agEq, scEq, boxVK, newVK, exc, vc_agg, vc_int, vc_bool, vc_str, vc_ptr, vc_sl, vc_fn, boxOf, adInf, List.reverse_cons, List.reverse_nil, List.nil_append, List.cons_append, extK, Bool.and_true, Bool.true_and, Bool.not_true, Bool.not_false, resT, resVs, resV, true_and, and_true, storeK, spl_nil, spl_z, spl_1, spl_2, spl_3, spl_4, spl_5, spl_6, spl_7, spl_8, scal_int, scal_bool, scal_str, scal_nil, implies_true, Bool.and_self, Post_ret, Post_normal, PostS_ret, PostS_normal, retT_true, retT_false, flat_bool, flat_int, flat_str, List.take_length, decide_true, decide_false, Option.some.injEq, Value.bool.injEq, Value.int.injEq, Bool.false_and, Bool.and_false, not_false_eq_true, not_true_eq_false, toIntK, List.length_set, Nat.reduceMul, Bool.not_eq_true, Bool.not_eq_false, List.all_cons, List.all_nil, exps, fillL, buildK, strK, nilcK, fnK, callVT, List.size_toArray, List.append_nil, List.singleton_append, boxOK, newOK, scal_nil, List.isEmpty_nil, List.isEmpty_cons, mkVK, mkOK, mkCells, zeros_0, zeros_1, zeros_2, zeros_3, zeros_4, List.map_cons, List.map_nil, c52]
  refine brT.intro (fun h => ?_) (fun h => ?_) <;> simp only [go_nil, go_blk, go_skip, go_ret, go_exit, go_seq, go_block, go_reg, go_r0, go_r, go_d0, go_d, go_e0, go_e, box2, Option.isSome_some, Nat.le_refl, go_cond, go_o, go_g, aft_some, cnd_bool, grd_bool, grd_tup, brT_true, brT_false, brT_not, thr_exit, thr_c, thr_nil, stp, stepK, movK, mv1, ex, exv, exvs, upd_some, upd_none, ini, St.val, binK, binV, ofV, pickK, unK, unV, beqK, beq_true, beq_false, if_true, if_false, List.getElem?_cons_zero, List.getElem?_cons_succ, ↓reduceIte, Nat.reduceEqDiff, reduceCtorEq, loadK, adr, deref, Ad.fv, Ad.live, fadrK, List.length_cons, List.length_nil, List.drop_zero, List.drop_succ_cons, List.take_succ_cons, List.take_zero, Nat.reduceAdd, Nat.reduceLeDiff, Nat.zero_add, Nat.add_zero, aeqK, agEq, scEq, boxVK, newVK, exc, vc_agg, vc_int, vc_bool, vc_str, vc_ptr, vc_sl, vc_fn, boxOf, adInf, List.reverse_cons, List.reverse_nil, List.nil_append, List.cons_append, extK, Bool.and_true, Bool.true_and, Bool.not_true, Bool.not_false, resT, resVs, resV, true_and, and_true, storeK, spl_nil, spl_z, spl_1, spl_2, spl_3, spl_4, spl_5, spl_6, spl_7, spl_8, scal_int, scal_bool, scal_str, scal_nil, implies_true, Bool.and_self, Post_ret, Post_normal, PostS_ret, PostS_normal, retT_true, retT_false, flat_bool, flat_int, flat_str, List.take_length, decide_true, decide_false, Option.some.injEq, Value.bool.injEq, Value.int.injEq, Bool.false_and, Bool.and_false, not_false_eq_true, not_true_eq_false, toIntK, List.length_set, Nat.reduceMul, Bool.not_eq_true, Bool.not_eq_false, List.all_cons, List.all_nil, exps, fillL, buildK, strK, nilcK, fnK, callVT, List.size_toArray, List.append_nil, List.singleton_append, boxOK, newOK, scal_nil, List.isEmpty_nil, List.isEmpty_cons, mkVK, mkOK, mkCells, zeros_0, zeros_1, zeros_2, zeros_3, zeros_4, List.map_cons, List.map_nil, h]
theorem f55 {H : Hp} {a b c : Int} : Scal EE 55 [.int .i64 a, .int .i64 b, .int .i64 c] H (.bool (decide (a ≥ b) && decide (a ≤ c))) := by
  refine scal_ok rfl rfl k55 (by simp [c55]) rfl fun m hw => ?_
  simp only [go_nil, go_blk, go_skip, go_ret, go_exit, go_seq, go_block, go_reg, go_r0, go_r, go_d0, go_d, go_e0, go_e, box2, Option.isSome_some, Nat.le_refl, go_cond, go_o, go_g, aft_some, cnd_bool, grd_bool, grd_tup, brT_true, brT_false, brT_not, thr_exit, thr_c, thr_nil, stp, stepK, movK, mv1, ex, exv, exvs, upd_some, upd_none, ini, St.val, binK, binV, ofV, pickK, unK, unV, beqK, beq_true, beq_false, if_true, if_false, List.getElem?_cons_zero, List.getElem?_cons_succ, ↓reduceIte, Nat.reduceEqDiff, reduceCtorEq, loadK, adr, deref, Ad.fv, Ad.live, fadrK, List.length_cons, List.length_nil, List.drop_zero, List.drop_succ_cons, List.take_succ_cons, List.take_zero, Nat.reduceAdd, Nat.reduceLeDiff, Nat.zero_add, Nat.add_zero, aeqK, agEq, scEq, boxVK, newVK, exc, vc_agg, vc_int, vc_bool, vc_str, vc_ptr, vc_sl, vc_fn, boxOf, adInf, List.reverse_cons, List.reverse_nil, List.nil_append, List.cons_append, extK, Bool.and_true, Bool.true_and, Bool.not_true, Bool.not_false, resT, resVs, resV, true_and, and_true, storeK, spl_nil, spl_z, spl_1, spl_2, spl_3, spl_4, spl_5, spl_6, spl_7, spl_8, scal_int, scal_bool, scal_str, scal_nil, implies_true, Bool.and_self, Post_ret, Post_normal, PostS_ret, PostS_normal, retT_true, retT_false, flat_bool, flat_int, flat_str, List.take_length, decide_true, decide_false, Option.some.injEq, Value.bool.injEq, Value.int.injEq, Bool.false_and, Bool.and_false, not_false_eq_true, not_true_eq_false, toIntK, List.length_set, Nat.reduceMul, Bool.not_eq_true, Bool.not_eq_false, List.all_cons, List.all_nil, exps, fillL, buildK, strK, nilcK, fnK, callVT, List.size_toArray, List.append_nil, List.singleton_append, boxOK, newOK, scal_nil, List.isEmpty_nil, List.isEmpty_cons, mkVK, mkOK, mkCells, zeros_0, zeros_1, zeros_2, zeros_3, zeros_4, List.map_cons, List.map_nil, c55]
  refine brT.intro (fun h => ?_) (fun h => ?_) <;> simp only [go_nil, go_blk, go_skip, go_ret, go_exit, go_seq, go_block, go_reg, go_r0, go_r, go_d0, go_d, go_e0, go_e, box2, Option.isSome_some, Nat.le_refl, go_cond, go_o, go_g, aft_some, cnd_bool, grd_bool, grd_tup, brT_true, brT_false, brT_not, thr_exit, thr_c, thr_nil, stp, stepK, movK, mv1, ex, exv, exvs, upd_some, upd_none, ini, St.val, binK, binV, ofV, pickK, unK, unV, beqK, beq_true, beq_false, if_true, if_false, List.getElem?_cons_zero, List.getElem?_cons_succ, ↓reduceIte, Nat.reduceEqDiff, reduceCtorEq, loadK, adr, deref, Ad.fv, Ad.live, fadrK, List.length_cons, List.length_nil, List.drop_zero, List.drop_succ_cons, List.take_succ_cons, List.take_zero, Nat.reduceAdd, Nat.reduceLeDiff, Nat.zero_add, Nat.add_zero, aeqK, agEq, scEq, boxVK, newVK, exc, vc_agg, vc_int, vc_bool, vc_str, vc_ptr, vc_sl, vc_fn, boxOf, adInf, List.reverse_cons, List.reverse_nil, List.nil_append, List.cons_append, extK, Bool.and_true, Bool.true_and, Bool.not_true, Bool.not_false, resT, resVs, resV, true_and, and_true, storeK, spl_nil, spl_z, spl_1, spl_2, spl_3, spl_4, spl_5, spl_6, spl_7, spl_8, scal_int, scal_bool, scal_str, scal_nil, implies_true, Bool.and_self, Post_ret, Post_normal, PostS_ret, PostS_normal, retT_true, retT_false, flat_bool, flat_int, flat_str, List.take_length, decide_true, decide_false, Option.some.injEq, Value.bool.injEq, Value.int.injEq, Bool.false_and, Bool.and_false, not_false_eq_true, not_true_eq_false, toIntK, List.length_set, Nat.reduceMul, Bool.not_eq_true, Bool.not_eq_false, List.all_cons, List.all_nil, exps, fillL, buildK, strK, nilcK, fnK, callVT, List.size_toArray, List.append_nil, List.singleton_append, boxOK, newOK, scal_nil, List.isEmpty_nil, List.isEmpty_cons, mkVK, mkOK, mkCells, zeros_0, zeros_1, zeros_2, zeros_3, zeros_4, List.map_cons, List.map_nil, h]
end Go.Proofs.Ytjepmnmakemfoaa.Ev

/- Numbers read from bytes: the reference's and the program's. -/
namespace Go.Proofs.Ytjepmnmakemfoaa.Ev
set_option linter.all false
open Go
set_option maxRecDepth 4000

theorem byte_at {b : ByteArray} {i : Nat} (h : i < b.size) : ∃ c, b[i]? = some c := ⟨_, getElem?_pos b i h⟩
end Go.Proofs.Ytjepmnmakemfoaa.Ev

/- Terms: the program's way. -/
namespace Go.Proofs.Ytjepmnmakemfoaa.Ev
set_option linter.all false
open Go
set_option maxRecDepth 4000

end Go.Proofs.Ytjepmnmakemfoaa.Ev

/- Marks, and what many texts need: from round 6. -/
namespace Go.Proofs.Ytjepmnmakemfoaa.Ev
set_option linter.all false
open Go
set_option maxRecDepth 4000

/-- A function that leaves memory as it is and answers so. -/
def ScalP (E : Env) (f : Nat) (vs : List Value) (H : Hp) (P : Value → Prop) : Prop := ∀ m : Md, Wr m H → Fun E m f vs H fun r H' => P r ∧ H' = H
theorem scalP_ok {E : Env} {f : Nat} {cf : CF} {vs : List Value} {H : Hp} {P : Value → Prop} (ht : E.tr f = true) (hp : E.prim f = none) (hf : E.fns f = some cf) (hl : vs.length ≤ cf.nt)
    (h : ∀ m : Md, Wr m H → go E m [.c cf.body] { ρ := ini vs, gn := 0, H := H } (Post cf.res true H fun r H' => P r ∧ H' = H)) : ScalP E f vs H P :=
  fun m hw => fun_ok ht hp hf hl (h _ hw)

theorem callT_now {E : Env} {m : Md} {f : Nat} {vs : List Value} {P : Value → Hp → Prop} {s : St} {d : Option Nat} {ts : List Tk} {Q : Ex → St → Prop} (h : Fun E m f vs s.H P)
    (hq : ∀ r H', P r H' → go E m ts { s with H := H', ρ := upd s.ρ d (.val r) } Q) : callT E m false f (some vs) s d ts Q := by
  unfold callT opt
  exact h.mono hq

def FreshS {α : Type} (enc : α → List Value) (esz : Nat) (H : Hp) (v : Value) (H' : Hp) (l : List α) : Prop := H <+: H' ∧ Sl (En enc) esz H' v l ∧ OwnS H.length v
/-- Rows as long as before. -/
def SL (H H' : Hp) : Prop := H'.length = H.length ∧ ∀ (j : Nat) (o : List Value), H[j]? = some o → ∃ o' : List Value, H'[j]? = some o' ∧ o'.length = o.length
theorem SL.refl (H : Hp) : SL H H := ⟨rfl, fun j o h => ⟨o, h, rfl⟩⟩
theorem SL.trans {H H' H'' : Hp} (h : SL H H') (k : SL H' H'') : SL H H'' := ⟨k.1.trans h.1, fun j o ho => by
  obtain ⟨o', h1, h2⟩ := h.2 j o ho
  obtain ⟨o'', k1, k2⟩ := k.2 j o' h1
  exact ⟨o'', k1, k2.trans h2⟩⟩
theorem SL.set {H : Hp} {id : Nat} {o o' : List Value} (ho : H[id]? = some o) (hl : o'.length = o.length) : SL H (H.set id o') := ⟨by simp, fun j p hp => by
  by_cases e : id = j
  · subst e
    rw [ho] at hp
    cases hp
    exact ⟨o', List.getElem?_set_self (List.getElem?_eq_some_iff.1 ho).1, hl⟩
  · exact ⟨p, by rw [List.getElem?_set_ne e]; exact hp, rfl⟩⟩
theorem Sl.sl {α : Type} {esz : Nat} {H H' : Hp} {v : Value} {l : List α} (h : Sl (fun _ _ => True) esz H v l) (hs : SL H H') : Sl (fun (_ : α) _ => True) esz H' v l := by
  rcases h with ⟨rfl, rfl⟩ | ⟨id, off, cap, o, rfl, ho, hc, hn, hrm, hr⟩
  · exact .inl ⟨rfl, rfl⟩
  · obtain ⟨o', h1, h2⟩ := hs.2 id o ho
    exact .inr ⟨id, off, cap, o', rfl, h1, by rw [h2]; exact hc, hn, hrm, fun _ _ _ => trivial⟩
theorem pre_keep {H H1 H2 : Hp} (h : H <+: H1) (hk : ∀ j, j < H.length → H2[j]? = H1[j]?) (hl : H1.length ≤ H2.length) : H <+: H2 := by
  rw [List.prefix_iff_eq_take]
  refine List.ext_getElem? fun j => ?_
  rw [List.getElem?_take]
  split
  · rename_i hj
    rw [hk j hj, pre_get h hj]
  · rw [List.getElem?_eq_none (by omega)]
theorem own_ge {N : Nat} {v : Value} (h : OwnS N v) : ∀ j ∈ idsOf v, N ≤ j := fun j hj => by
  rcases h with rfl | ⟨id, e, ln, cap, rfl, hid⟩
  · simp [idsOf] at hj
  · simp [idsOf] at hj; omega
theorem own_notin {x N : Nat} {v : Value} (h : OwnS N v) (hx : x < N) : x ∉ idsOf v := fun hm => by have := own_ge h x hm; omega
theorem Sl.keep {α : Type} {R : α → List Value → Prop} {esz : Nat} {H H' : Hp} {v w : Value} {l : List α} (h : Sl R esz H v l) (hd : ∀ j ∈ idsOf v, j ∉ idsOf w) (hf : ∀ j, j ∉ idsOf w → H'[j]? = H[j]?) : Sl R esz H' v l :=
  h.frame (fun _ _ _ h => h) fun id off e len cap hv => hf id (hd id (by subst hv; simp [idsOf]))

end Go.Proofs.Ytjepmnmakemfoaa.Ev

/- Tables: right ones. -/
namespace Go.Proofs.Ytjepmnmakemfoaa.Ev
set_option linter.all false
open Go
set_option maxRecDepth 4000

abbrev Rw := Int × Int × Int
def eRw (z : Rw) : List Value := [.int .i64 z.1, .int .i64 z.2.1, .int .i64 z.2.2]
def vRw (z : Rw) : Value := .agg #[.int .i64 z.1, .int .i64 z.2.1, .int .i64 z.2.2]
abbrev SlRw (H : Hp) (v : Value) (l : List Rw) : Prop := Sl (En eRw) 3 H v l
def inB (a b c : Int) : Bool := decide (a ≥ b) && decide (a ≤ c)
theorem inB_t {a b c : Int} : inB a b c = true ↔ b ≤ a ∧ a ≤ c := by simp [inB]
theorem f52i {H : Hp} {a b c : Int} : Scal EE 52 [.int .i64 a, .int .i64 b, .int .i64 c] H (.bool (inB a b c)) := f52
theorem f55i {H : Hp} {a b c : Int} : Scal EE 55 [.int .i64 a, .int .i64 b, .int .i64 c] H (.bool (inB a b c)) := f55
theorem f54i {H : Hp} {a : Int} : Scal EE 54 [.int .i64 a] H (.bool (inB a 0 99)) := by
  refine scal_ok rfl rfl k54 (by simp [c54]) rfl fun m hw => ?_
  have a55 := fun {a b c : Int} {m draw t d ts Q} => callT_at (m := m) (draw := draw) (s := t) (d := d) (ts := ts) (Q := Q) (f55i (H := H) (a := a) (b := b) (c := c))
  simp only [go_sem, ↓reduceIte, Nat.reduceEqDiff, reduceCtorEq, Nat.reduceAdd, Nat.reduceLeDiff, Nat.reduceMul, c54, a55, hw]
theorem f56i {H : Hp} {a : Int} : Scal EE 56 [.int .i64 a] H (.bool (inB a 1 1000000)) := by
  refine scal_ok rfl rfl k56 (by simp [c56]) rfl fun m hw => ?_
  have a55 := fun {a b c : Int} {m draw t d ts Q} => callT_at (m := m) (draw := draw) (s := t) (d := d) (ts := ts) (Q := Q) (f55i (H := H) (a := a) (b := b) (c := c))
  simp only [go_sem, ↓reduceIte, Nat.reduceEqDiff, reduceCtorEq, Nat.reduceAdd, Nat.reduceLeDiff, Nat.reduceMul, c56, a55, hw]
def rowOkB (z : Rw) : Bool := inB z.1 0 99 && (inB z.2.1 1 1000 && inB z.2.2 1 1000000)
def ltR (a b : Rw) : Prop := a.1 < b.1 ∨ (a.1 = b.1 ∧ a.2.1 < b.2.1)
def keysR (l : List Rw) : List Int := l.map (·.2.2)
/-- A row that is right, behind the one ahead of it. -/
def RowAt (l : List Rw) (i : Nat) : Prop := ∀ z, l[i]? = some z → rowOkB z = true ∧ (∀ z', 0 < i → l[i - 1]? = some z' → ltR z' z) ∧ z.2.2 ∉ keysR (l.take i)
def TbOk (l : List Rw) : Prop := l.length ≤ 20 ∧ ∀ i, i < l.length → RowAt l i
open Classical in
noncomputable def tbOk (l : List Rw) : Bool := decide (TbOk l)
theorem tbOk_t {l : List Rw} : tbOk l = true ↔ TbOk l := by unfold tbOk; simp
theorem tbOk_yes {l : List Rw} (h : TbOk l) : tbOk l = true := tbOk_t.2 h
theorem tbOk_no {l : List Rw} (h : ¬ TbOk l) : tbOk l = false := by
  cases h2 : tbOk l with
  | false => rfl
  | true => exact absurd (tbOk_t.1 h2) h
theorem rowAt_at {l : List Rw} {i : Nat} (hi : i < l.length) : RowAt l i ↔ rowOkB l[i] = true ∧ (∀ h : 0 < i, ltR (l[i - 1]'(by omega)) l[i]) ∧ l[i].2.2 ∉ keysR (l.take i) := by
  unfold RowAt
  constructor
  · intro h
    obtain ⟨h1, h2, h3⟩ := h _ (List.getElem?_eq_getElem hi)
    exact ⟨h1, fun h0 => h2 _ h0 (List.getElem?_eq_getElem (by omega)), h3⟩
  · rintro ⟨h1, h2, h3⟩ row hr
    rw [List.getElem?_eq_getElem hi] at hr
    cases hr
    refine ⟨h1, fun row' h0 hr' => ?_, h3⟩
    rw [List.getElem?_eq_getElem (by omega)] at hr'
    cases hr'
    exact h2 h0
theorem keys_succ {l : List Rw} {i : Nat} {k : Int} (hi : i < l.length) (h : k ∉ keysR (l.take i)) (hx : l[i].2.2 ≠ k) : k ∉ keysR (l.take (i + 1)) := by
  rw [List.take_succ_eq_append_getElem hi]
  simp only [keysR, List.map_append, List.mem_append, List.map_cons, List.map_nil, List.mem_singleton, not_or] at h ⊢
  exact ⟨h, fun e => hx e.symm⟩
theorem keys_at {l : List Rw} {i j : Nat} (hj : j < i) (hi : i ≤ l.length) : (l[j]'(by omega)).2.2 ∈ keysR (l.take i) := by
  refine List.mem_map.2 ⟨l[j]'(by omega), ?_, rfl⟩
  refine List.mem_iff_getElem.2 ⟨j, by rw [List.length_take]; omega, by rw [List.getElem_take]⟩

theorem f86 {H : Hp} {w : Rw} {t : Int} {id : Nat} (hid : H[id]? = some [.int .i64 t]) : Scal EE 86 [vRw w, .pointer (some ⟨id, 0, some 1⟩)] H (.bool (decide (w.2.2 = t))) := by
  refine scal_ok rfl rfl k86 (by simp [c86]) rfl fun m hw => ?_
  unfold vRw
  simp only [go_sem, ↓reduceIte, Nat.reduceEqDiff, reduceCtorEq, Nat.reduceAdd, Nat.reduceLeDiff, Nat.reduceMul, c86, hid]
def keyIn (l : List Rw) (t : Int) : Bool := decide (t ∈ keysR l)
theorem f96 {H : Hp} {v : Value} {l : List Rw} {t : Int} {id : Nat} (hl : SlRw H v l) (hid : H[id]? = some [.int .i64 t]) : ScalP EE 96 [v, .func (.func 86) #[] #[.pointer (some ⟨id, 0, some 1⟩)]] H fun r => ∃ n : Int, r = .int .i64 n ∧ (0 ≤ n ↔ t ∈ keysR l) := by
  refine scalP_ok rfl rfl k96 (by simp [c96]) fun m hw => ?_
  have hroom := hl.room
  simp only [go_sem, ↓reduceIte, Nat.reduceEqDiff, reduceCtorEq, Nat.reduceAdd, Nat.reduceLeDiff, Nat.reduceMul, c96, hl.len]
  refine go_for l.length (fun i s => s.H = H ∧ s.ρ 0 = .val v ∧ s.ρ 1 = .val (.func (.func 86) #[] #[.pointer (some ⟨id, 0, some 1⟩)]) ∧ s.ρ 7 = .val (.int .i64 l.length) ∧ s.ρ 8 = .val (.int .i64 i) ∧ t ∉ keysR (l.take i)) (fun s => s.H = H ∧ t ∉ keysR l) (by simp [upd, ini, keysR]) ?_ ?_
  · rintro i s hi ⟨hH, k0, k1, k7, k8, hn⟩
    simp only [go_sem, ↓reduceIte, Nat.reduceEqDiff, reduceCtorEq, Nat.reduceAdd, Nat.reduceLeDiff, Nat.reduceMul, k0, k1, k7, k8]
    refine brT.intro (fun q1 => ?_) (fun q1 => ?_) <;> simp only [go_sem, ↓reduceIte, Nat.reduceEqDiff, reduceCtorEq, Nat.reduceAdd, Nat.reduceLeDiff, Nat.reduceMul, k0, k1, k7, k8]
    · have hil : i < l.length := by have := of_decide_eq_true q1; omega
      obtain ⟨id2, p, o2, ho, hr, hp, hia⟩ := hl.elem (List.getElem?_eq_getElem hil)
      unfold En at hr
      have a86 := fun {m draw t' d ts Q} => callT_at (m := m) (draw := draw) (s := t') (d := d) (ts := ts) (Q := Q) (f86 (w := l[i]) hid)
      unfold vRw at a86
      simp only [go_sem, ↓reduceIte, Nat.reduceEqDiff, reduceCtorEq, Nat.reduceAdd, Nat.reduceLeDiff, Nat.reduceMul, k0, k1, k7, k8, hia, hH, ho, hr, hp, eRw, a86, hw]
      refine brT.intro (fun q2 => ?_) (fun q2 => ?_) <;> simp only [go_sem, ↓reduceIte, Nat.reduceEqDiff, reduceCtorEq, Nat.reduceAdd, Nat.reduceLeDiff, Nat.reduceMul, k0, k1, k7, k8, wrap64 ((i : Int) + 1) (by omega) (by omega)]
      · have q2' := of_decide_eq_true q2
        refine ⟨_, rfl, fun _ => ?_, fun _ => by omega⟩
        exact List.mem_map.2 ⟨l[i], List.getElem_mem hil, q2'⟩
      · exact ⟨hil, by simp, keys_succ hil hn (of_decide_eq_false q2)⟩
    · have : i = l.length := by have := of_decide_eq_false q1; omega
      subst this
      rw [List.take_length] at hn
      exact ⟨hH, hn⟩
  · rintro s ⟨hH, hn⟩
    simp only [go_sem, ↓reduceIte, Nat.reduceEqDiff, reduceCtorEq, Nat.reduceAdd, Nat.reduceLeDiff, Nat.reduceMul, hH]
    exact ⟨-1, rfl, fun h => absurd h (by decide), fun h => absurd h hn⟩
theorem f85 {H : Hp} {v : Value} {l : List Rw} {t : Int} {id : Nat} (hl : SlRw H v l) (hid : H[id]? = some [.int .i64 t]) : Scal EE 85 [v, .func (.func 86) #[] #[.pointer (some ⟨id, 0, some 1⟩)]] H (.bool (keyIn l t)) := by
  refine scal_ok rfl rfl k85 (by simp [c85]) rfl fun m hw => ?_
  simp only [go_sem, ↓reduceIte, Nat.reduceEqDiff, reduceCtorEq, Nat.reduceAdd, Nat.reduceLeDiff, Nat.reduceMul, c85]
  refine callT_to (fun m' h => f96 hl hid m' h) rfl hw fun r H' ⟨⟨n, e, hn⟩, e2⟩ => ?_
  subst e; subst e2
  simp only [go_sem, ↓reduceIte, Nat.reduceEqDiff, reduceCtorEq, Nat.reduceAdd, Nat.reduceLeDiff, Nat.reduceMul]
  unfold keyIn
  congr 2
  exact propext hn
theorem f58 {H : Hp} {v : Value} {l : List Rw} {t : Int} (hl : SlRw H v l) : Scal EE 58 [v, .int .i64 t] H (.bool (keyIn l t)) := by
  refine scal_ok rfl rfl k58 (by simp [c58]) rfl fun m hw => ?_
  have p0 : H <+: H ++ [[.int .i64 t]] := List.prefix_append _ _
  have a85 := fun {m draw t' d ts Q} => callT_at (m := m) (draw := draw) (s := t') (d := d) (ts := ts) (Q := Q) (f85 (t := t) (id := H.length) (hl.pre p0) (by simp))
  simp only [go_sem, ↓reduceIte, Nat.reduceEqDiff, reduceCtorEq, Nat.reduceAdd, Nat.reduceLeDiff, Nat.reduceMul, c58, a85, hw.pre p0]
  simp

theorem f16 {H : Hp} {v : Value} {l : List Rw} (hl : SlRw H v l) : Scal EE 16 [v] H (.bool (tbOk l)) := by
  refine scal_ok rfl rfl k16 (by simp [c16]) rfl fun m hw => ?_
  have hroom := hl.room
  have a52 := fun {a b c : Int} {m draw t d ts Q} => callT_at (m := m) (draw := draw) (s := t) (d := d) (ts := ts) (Q := Q) (f52i (H := H) (a := a) (b := b) (c := c))
  simp only [go_sem, ↓reduceIte, Nat.reduceEqDiff, reduceCtorEq, Nat.reduceAdd, Nat.reduceLeDiff, Nat.reduceMul, c16, hl.len]
  refine brT.intro (fun q0 => ?_) (fun q0 => ?_) <;> simp only [go_sem, ↓reduceIte, Nat.reduceEqDiff, reduceCtorEq, Nat.reduceAdd, Nat.reduceLeDiff, Nat.reduceMul]
  · rw [tbOk_no fun h => by have := h.1; have := of_decide_eq_true q0; omega]
  have q0' := of_decide_eq_false q0
  refine go_for l.length (fun i s => s.H = H ∧ s.ρ 0 = .val v ∧ s.ρ 3 = .val (.int .i64 i) ∧ ∀ j, j < i → RowAt l j)
    (fun s => s.H = H ∧ ∀ j, j < l.length → RowAt l j) ?_ ?_ ?_
  · exact ⟨rfl, by simp [upd, ini], by simp [upd], fun j hj => by omega⟩
  · rintro i s hi ⟨hH, k0, k3, kok⟩
    simp only [go_sem, ↓reduceIte, Nat.reduceEqDiff, reduceCtorEq, Nat.reduceAdd, Nat.reduceLeDiff, Nat.reduceMul, k0, k3, hl.len]
    refine brT.intro (fun c1 => ?_) (fun c1 => ?_) <;> simp only [go_sem, ↓reduceIte, Nat.reduceEqDiff, reduceCtorEq, Nat.reduceAdd, Nat.reduceLeDiff, Nat.reduceMul, k0, k3]
    rotate_left
    · have : i = l.length := by have := of_decide_eq_false c1; omega
      subst this
      exact ⟨hH, kok⟩
    have hil : i < l.length := by have := of_decide_eq_true c1; omega
    obtain ⟨id, p, o, ho, hr, hp, hia⟩ := hl.elem (List.getElem?_eq_getElem hil)
    unfold En at hr
    have hat := rowAt_at hil
    have hno : ¬ RowAt l i → ¬ TbOk l := fun h h2 => h (h2.2 i hil)
    have w1 : IntKind.i64.wrap ((i : Int) + 1) = (i : Int) + 1 := wrap64 _ (by omega) (by omega)
    simp only [go_sem, ↓reduceIte, Nat.reduceEqDiff, reduceCtorEq, Nat.reduceAdd, Nat.reduceLeDiff, Nat.reduceMul, k0, k3, hia, hH, ho, hr, hp, eRw]
    refine go_draw ?_
    cases h1 : inB l[i].1 0 99 <;> simp only [go_sem, ↓reduceIte, Nat.reduceEqDiff, reduceCtorEq, Nat.reduceAdd, Nat.reduceLeDiff, Nat.reduceMul, k0, k3, a52, hw, hH, h1]
    · refine ⟨by rfl, ?_⟩
      rw [tbOk_no (hno fun h => by have := (hat.1 h).1; simp [rowOkB, h1] at this)]
    cases h2 : inB l[i].2.1 1 1000 <;> simp only [go_sem, ↓reduceIte, Nat.reduceEqDiff, reduceCtorEq, Nat.reduceAdd, Nat.reduceLeDiff, Nat.reduceMul, k0, k3, a52, hw, hH, h1, h2]
    · refine ⟨by rfl, ?_⟩
      rw [tbOk_no (hno fun h => by have := (hat.1 h).1; simp [rowOkB, h2] at this)]
    cases h3 : inB l[i].2.2 1 1000000 <;> simp only [go_sem, ↓reduceIte, Nat.reduceEqDiff, reduceCtorEq, Nat.reduceAdd, Nat.reduceLeDiff, Nat.reduceMul, k0, k3, a52, hw, hH, h1, h2, h3]
    · refine ⟨by rfl, ?_⟩
      rw [tbOk_no (hno fun h => by have := (hat.1 h).1; simp [rowOkB, h3] at this)]
    have hrow : rowOkB l[i] = true := by simp [rowOkB, h1, h2, h3]
    cases h4 : decide ((i : Int) > 0)
    rotate_left
    have hi0 : 0 < i := by have := of_decide_eq_true h4; omega
    have hil1 : i - 1 < l.length := by omega
    obtain ⟨id', p', o', ho', hr', hp', hia'⟩ := hl.elem (List.getElem?_eq_getElem hil1)
    unfold En at hr'
    have g0 : o'[p']? = some (.int .i64 l[i - 1].1) := by simpa [eRw] using getElem?_of_take hr' (j := 0) (by omega)
    have g1 : o'[p' + 1]? = some (.int .i64 l[i - 1].2.1) := by simpa [eRw] using getElem?_of_take hr' (j := 1) (by omega)
    have w2 : IntKind.i64.wrap ((i : Int) - 1) = ((i - 1 : Nat) : Int) := by rw [wrap64 _ (by omega) (by omega)]; omega
    simp only [go_sem, ↓reduceIte, Nat.reduceEqDiff, reduceCtorEq, Nat.reduceAdd, Nat.reduceLeDiff, Nat.reduceMul, k0, k3, h4, w2, hia', hH, ho', g0, g1]
    cases h5 : decide (l[i - 1].1 > l[i].1)
    rotate_left
    · simp only [go_sem, ↓reduceIte, Nat.reduceEqDiff, reduceCtorEq, Nat.reduceAdd, Nat.reduceLeDiff, Nat.reduceMul, k0, k3, h5]
      refine ⟨by rfl, ?_⟩
      rw [tbOk_no (hno fun h => by
        have := (hat.1 h).2.1 hi0
        have := of_decide_eq_true h5
        unfold ltR at *
        omega)]
    rotate_left
    have h5' := of_decide_eq_false h5
    simp only [go_sem, ↓reduceIte, Nat.reduceEqDiff, reduceCtorEq, Nat.reduceAdd, Nat.reduceLeDiff, Nat.reduceMul, k0, k3, w2, hia', hH, ho', g0, g1, h5]
    cases h6 : decide (l[i - 1].1 = l[i].1)
    have hlt : ∀ h : 0 < i, ltR (l[i - 1]'(by omega)) l[i] := fun _ => .inl (by have := of_decide_eq_false h6; omega)
    simp only [go_sem, ↓reduceIte, Nat.reduceEqDiff, reduceCtorEq, Nat.reduceAdd, Nat.reduceLeDiff, Nat.reduceMul, k0, k3, w2, hia', hH, ho', g0, g1, h6]
    refine ⟨by rfl, ?_⟩
    rotate_left
    simp only [go_sem, ↓reduceIte, Nat.reduceEqDiff, reduceCtorEq, Nat.reduceAdd, Nat.reduceLeDiff, Nat.reduceMul, k0, k3, w2, hia', hH, ho', g0, g1, h6]
    cases h7 : decide (l[i - 1].2.1 ≥ l[i].2.1)
    have hlt : ∀ h : 0 < i, ltR (l[i - 1]'(by omega)) l[i] := fun _ => .inr (by have := of_decide_eq_true h6; have := of_decide_eq_false h7; omega)
    simp only [go_sem, ↓reduceIte, Nat.reduceEqDiff, reduceCtorEq, Nat.reduceAdd, Nat.reduceLeDiff, Nat.reduceMul, k0, k3, h7]
    refine ⟨by rfl, ?_⟩
    rotate_left
    · simp only [go_sem, ↓reduceIte, Nat.reduceEqDiff, reduceCtorEq, Nat.reduceAdd, Nat.reduceLeDiff, Nat.reduceMul, k0, k3, h7]
      refine ⟨by rfl, ?_⟩
      rw [tbOk_no (hno fun h => by
        have := (hat.1 h).2.1 hi0
        have := of_decide_eq_true h6
        have := of_decide_eq_true h7
        unfold ltR at *
        omega)]
    have hlt : ∀ h : 0 < i, ltR (l[i - 1]'(by omega)) l[i] := fun h => by have := of_decide_eq_false h4; omega
    simp only [go_sem, ↓reduceIte, Nat.reduceEqDiff, reduceCtorEq, Nat.reduceAdd, Nat.reduceLeDiff, Nat.reduceMul, k0, k3, h4]
    refine ⟨by rfl, ?_⟩
    all_goals (
      refine go_for i (fun j t => t.H = H ∧ t.ρ 0 = .val v ∧ t.ρ 3 = .val (.int .i64 i) ∧ (∃ g, t.ρ 4 = .bx g (eRw l[i])) ∧ t.ρ 5 = .val (.int .i64 j) ∧ l[i].2.2 ∉ keysR (l.take j)) (fun t => t.H = H ∧ t.ρ 0 = .val v ∧ t.ρ 3 = .val (.int .i64 i) ∧ l[i].2.2 ∉ keysR (l.take i)) ⟨by first | exact hH | rfl, by simp [upd, k0], by simp [upd, k3], ⟨_, by simp [upd, eRw]; rfl⟩, by simp [upd], by simp [keysR]⟩ ?_ ?_
      · rintro j t hj ⟨tH, t0, t3, ⟨g, t4⟩, t5, tn⟩
        unfold eRw at t4
        simp only [go_sem, ↓reduceIte, Nat.reduceEqDiff, reduceCtorEq, Nat.reduceAdd, Nat.reduceLeDiff, Nat.reduceMul, t0, t3, t5]
        refine brT.intro (fun d1 => ?_) (fun d1 => ?_) <;> simp only [go_sem, ↓reduceIte, Nat.reduceEqDiff, reduceCtorEq, Nat.reduceAdd, Nat.reduceLeDiff, Nat.reduceMul, t0, t3, t4, t5]
        · have hji : j < i := by have := of_decide_eq_true d1; omega
          have hjl : j < l.length := by omega
          obtain ⟨jd, jp, jo, jho, jhr, jhp, jia⟩ := hl.elem (List.getElem?_eq_getElem hjl)
          unfold En at jhr
          have jg : jo[jp + 2]? = some (.int .i64 l[j].2.2) := by simpa [eRw] using getElem?_of_take jhr (j := 2) (by omega)
          refine go_draw ?_
          simp only [go_sem, ↓reduceIte, Nat.reduceEqDiff, reduceCtorEq, Nat.reduceAdd, Nat.reduceLeDiff, Nat.reduceMul, t0, t3, t4, t5, jia, tH, jho, jg]
          refine ⟨by rfl, ?_⟩
          refine brT.intro (fun d2 => ?_) (fun d2 => ?_) <;> simp only [go_sem, ↓reduceIte, Nat.reduceEqDiff, reduceCtorEq, Nat.reduceAdd, Nat.reduceLeDiff, Nat.reduceMul, t0, t3, t4, t5, wrap64 ((j : Int) + 1) (by omega) (by omega)]
          · rw [tbOk_no (hno fun h => (hat.1 h).2.2 (by rw [← of_decide_eq_true d2]; exact keys_at hji (by omega)))]
          · refine ⟨hji, ?_, ?_, keys_succ hjl tn (of_decide_eq_false d2)⟩ <;> simp [eRw]
        · have : j = i := by have := of_decide_eq_false d1; omega
          subst this
          exact ⟨tH, tn⟩
      · rintro t ⟨tH, t0, t3, tn⟩
        simp only [go_sem, ↓reduceIte, Nat.reduceEqDiff, reduceCtorEq, Nat.reduceAdd, Nat.reduceLeDiff, Nat.reduceMul, t0, t3, w1]
        refine ⟨hil, tH, by simp, fun j hj => ?_⟩
        by_cases e : j = i
        · subst e
          exact hat.2 ⟨hrow, hlt, tn⟩
        · exact kok j (by omega))
  · rintro s ⟨hH, kok⟩
    simp only [go_sem, ↓reduceIte, Nat.reduceEqDiff, reduceCtorEq, Nat.reduceAdd, Nat.reduceLeDiff, Nat.reduceMul, hH]
    rw [tbOk_yes ⟨by omega, kok⟩]

def cmpR (a b : Rw) : Int := if a.1 = b.1 then IntKind.i64.wrap (a.2.1 - b.2.1) else IntKind.i64.wrap (a.1 - b.1)
theorem f57 {H : Hp} {a b : Rw} : Scal EE 57 [vRw a, vRw b] H (.int .i64 (cmpR a b)) := by
  refine scal_ok rfl rfl k57 (by simp [c57]) rfl fun m hw => ?_
  unfold vRw cmpR
  simp only [go_sem, ↓reduceIte, Nat.reduceEqDiff, reduceCtorEq, Nat.reduceAdd, Nat.reduceLeDiff, Nat.reduceMul, c57]
  refine brT.intro (fun h1 => ?_) (fun h1 => ?_) <;> simp only [go_sem, ↓reduceIte, Nat.reduceEqDiff, reduceCtorEq, Nat.reduceAdd, Nat.reduceLeDiff, Nat.reduceMul]
  · rw [if_pos (of_decide_eq_true h1)]
  · rw [if_neg (of_decide_eq_false h1)]
theorem cmpR_lt {a b : Rw} (ha : rowOkB a = true) (hb : rowOkB b = true) : cmpR a b < 0 ↔ ltR a b := by
  simp only [rowOkB, Bool.and_eq_true, inB_t] at ha hb
  unfold cmpR ltR
  by_cases e : a.1 = b.1
  · rw [if_pos e, wrap64 _ (by omega) (by omega)]
    omega
  · rw [if_neg e, wrap64 _ (by omega) (by omega)]
    omega
theorem f18 {H : Hp} {v : Value} {l : List Rw} (hl : SlRw H v l) : Scal EE 18 [v] H (.bool (tbOk l)) := by
  refine scal_ok rfl rfl k18 (by simp [c18]) rfl fun m hw => ?_
  have hroom := hl.room
  have a54 := fun {a : Int} {m draw t d ts Q} => callT_at (m := m) (draw := draw) (s := t) (d := d) (ts := ts) (Q := Q) (f54i (H := H) (a := a))
  have a55 := fun {a b c : Int} {m draw t d ts Q} => callT_at (m := m) (draw := draw) (s := t) (d := d) (ts := ts) (Q := Q) (f55i (H := H) (a := a) (b := b) (c := c))
  have a56 := fun {a : Int} {m draw t d ts Q} => callT_at (m := m) (draw := draw) (s := t) (d := d) (ts := ts) (Q := Q) (f56i (H := H) (a := a))
  simp only [go_sem, ↓reduceIte, Nat.reduceEqDiff, reduceCtorEq, Nat.reduceAdd, Nat.reduceLeDiff, Nat.reduceMul, c18, hl.len]
  refine go_for l.length (fun i s => s.H = H ∧ s.ρ 0 = .val v ∧ s.ρ 5 = .val v ∧ s.ρ 6 = .val (.int .i64 l.length) ∧ s.ρ 7 = .val (.int .i64 i) ∧ ∀ j, j < i → RowAt l j)
    (fun s => s.H = H ∧ s.ρ 0 = .val v ∧ ∀ j, j < l.length → RowAt l j) ?_ ?_ ?_
  · exact ⟨rfl, by simp [upd, ini], by simp [upd], by simp [upd], by simp [upd], fun j hj => by omega⟩
  · rintro i s hi ⟨hH, k0, k5, k6, k7, kok⟩
    simp only [go_sem, ↓reduceIte, Nat.reduceEqDiff, reduceCtorEq, Nat.reduceAdd, Nat.reduceLeDiff, Nat.reduceMul, k0, k5, k6, k7]
    refine brT.intro (fun c1 => ?_) (fun c1 => ?_) <;> simp only [go_sem, ↓reduceIte, Nat.reduceEqDiff, reduceCtorEq, Nat.reduceAdd, Nat.reduceLeDiff, Nat.reduceMul, k0, k5, k6, k7]
    rotate_left
    · have : i = l.length := by have := of_decide_eq_false c1; omega
      subst this
      exact ⟨hH, kok⟩
    have hil : i < l.length := by have := of_decide_eq_true c1; omega
    obtain ⟨id, p, o, ho, hr, hp, hia⟩ := hl.elem (List.getElem?_eq_getElem hil)
    unfold En at hr
    have hat := rowAt_at hil
    have hno : ¬ RowAt l i → ¬ TbOk l := fun h h2 => h (h2.2 i hil)
    have w1 : IntKind.i64.wrap ((i : Int) + 1) = (i : Int) + 1 := wrap64 _ (by omega) (by omega)
    obtain ⟨v', hv', hsl⟩ := hl.take (i := i) (by omega)
    have a58 := fun {t : Int} {m draw t' d ts Q} => callT_at (m := m) (draw := draw) (s := t') (d := d) (ts := ts) (Q := Q) (f58 (t := t) hv')
    simp only [go_sem, ↓reduceIte, Nat.reduceEqDiff, reduceCtorEq, Nat.reduceAdd, Nat.reduceLeDiff, Nat.reduceMul, k0, k5, k6, k7, hia, hH, ho, hr, hp, eRw]
    refine go_draw ?_
    cases h1 : inB l[i].1 0 99 <;> simp only [go_sem, ↓reduceIte, Nat.reduceEqDiff, reduceCtorEq, Nat.reduceAdd, Nat.reduceLeDiff, Nat.reduceMul, k0, k5, k6, k7, a54, hw, hH, h1]
    · refine ⟨by rfl, ?_⟩
      rw [tbOk_no (hno fun h => by have := (hat.1 h).1; simp [rowOkB, h1] at this)]
    cases h2 : inB l[i].2.1 1 1000 <;> simp only [go_sem, ↓reduceIte, Nat.reduceEqDiff, reduceCtorEq, Nat.reduceAdd, Nat.reduceLeDiff, Nat.reduceMul, k0, k5, k6, k7, a55, hw, hH, h1, h2]
    · refine ⟨by rfl, ?_⟩
      rw [tbOk_no (hno fun h => by have := (hat.1 h).1; simp [rowOkB, h2] at this)]
    cases h3 : inB l[i].2.2 1 1000000 <;> simp only [go_sem, ↓reduceIte, Nat.reduceEqDiff, reduceCtorEq, Nat.reduceAdd, Nat.reduceLeDiff, Nat.reduceMul, k0, k5, k6, k7, a56, hw, hH, h1, h2, h3]
    · refine ⟨by rfl, ?_⟩
      rw [tbOk_no (hno fun h => by have := (hat.1 h).1; simp [rowOkB, h3] at this)]
    have hrow : rowOkB l[i] = true := by simp [rowOkB, h1, h2, h3]
    have next : (∀ h : 0 < i, ltR (l[i - 1]'(by omega)) l[i]) → l[i].2.2 ∉ keysR (l.take i) → ∀ j, j < i + 1 → RowAt l j := fun a b j hj => by
      by_cases e : j = i
      · subst e
        exact hat.2 ⟨hrow, a, b⟩
      · exact kok j (by omega)
    cases h4 : decide ((i : Int) > 0)
    rotate_left
    have hi0 : 0 < i := by have := of_decide_eq_true h4; omega
    have hil1 : i - 1 < l.length := by omega
    have hprev : rowOkB l[i - 1] = true := ((rowAt_at hil1).1 (kok (i - 1) (by omega))).1
    have hcmp := cmpR_lt hprev hrow
    obtain ⟨id', p', o', ho', hr', hp', hia'⟩ := hl.elem (List.getElem?_eq_getElem hil1)
    unfold En at hr'
    have a57 := fun {m draw t d ts Q} => callT_at (m := m) (draw := draw) (s := t) (d := d) (ts := ts) (Q := Q) (f57 (H := H) (a := l[i - 1]) (b := l[i]))
    unfold vRw at a57
    have w2 : IntKind.i64.wrap ((i : Int) - 1) = ((i - 1 : Nat) : Int) := by rw [wrap64 _ (by omega) (by omega)]; omega
    simp only [go_sem, ↓reduceIte, Nat.reduceEqDiff, reduceCtorEq, Nat.reduceAdd, Nat.reduceLeDiff, Nat.reduceMul, k0, k5, k6, k7, h4, w2, hia', hH, ho', hr', hp', eRw, a57, hw]
    cases h5 : decide (cmpR l[i - 1] l[i] ≥ 0)
    rotate_left
    · simp only [go_sem, ↓reduceIte, Nat.reduceEqDiff, reduceCtorEq, Nat.reduceAdd, Nat.reduceLeDiff, Nat.reduceMul, k0, k5, k6, k7, h5]
      refine ⟨by rfl, ?_⟩
      rw [tbOk_no (hno fun h => by
        have := hcmp.2 ((hat.1 h).2.1 hi0)
        have := of_decide_eq_true h5
        omega)]
    rotate_left
    have hlt : ∀ h : 0 < i, ltR (l[i - 1]'(by omega)) l[i] := fun _ => hcmp.1 (by have := of_decide_eq_false h5; omega)
    simp only [go_sem, ↓reduceIte, Nat.reduceEqDiff, reduceCtorEq, Nat.reduceAdd, Nat.reduceLeDiff, Nat.reduceMul, k0, k5, k6, k7, h5, hsl, a58, hw, hH]
    rotate_left
    have hlt : ∀ h : 0 < i, ltR (l[i - 1]'(by omega)) l[i] := fun h => by have := of_decide_eq_false h4; omega
    simp only [go_sem, ↓reduceIte, Nat.reduceEqDiff, reduceCtorEq, Nat.reduceAdd, Nat.reduceLeDiff, Nat.reduceMul, k0, k5, k6, k7, h4, hsl, a58, hw, hH]
    all_goals (
      cases h6 : keyIn (l.take i) l[i].2.2
      · have h6' : l[i].2.2 ∉ keysR (l.take i) := of_decide_eq_false h6
        simp only [go_sem, ↓reduceIte, Nat.reduceEqDiff, reduceCtorEq, Nat.reduceAdd, Nat.reduceLeDiff, Nat.reduceMul, k0, k5, k6, k7, h6]
        refine ⟨by rfl, ?_⟩
        simp only [go_sem, ↓reduceIte, Nat.reduceEqDiff, reduceCtorEq, Nat.reduceAdd, Nat.reduceLeDiff, Nat.reduceMul, k0, k5, k6, k7, h6, w1]
        exact ⟨hil, by simp, next hlt h6'⟩
      · have h6' : l[i].2.2 ∈ keysR (l.take i) := of_decide_eq_true h6
        simp only [go_sem, ↓reduceIte, Nat.reduceEqDiff, reduceCtorEq, Nat.reduceAdd, Nat.reduceLeDiff, Nat.reduceMul, k0, k5, k6, k7, h6]
        refine ⟨by rfl, ?_⟩
        rw [tbOk_no (hno fun h => (hat.1 h).2.2 h6')])
  · rintro s ⟨hH, k0, kok⟩
    simp only [go_sem, ↓reduceIte, Nat.reduceEqDiff, reduceCtorEq, Nat.reduceAdd, Nat.reduceLeDiff, Nat.reduceMul, hH, k0, hl.len]
    cases h : decide ((l.length : Int) ≤ 20) with
    | true => rw [tbOk_yes ⟨by have := of_decide_eq_true h; omega, kok⟩]
    | false => rw [tbOk_no fun h2 => by have := of_decide_eq_false h; have := h2.1; omega]
end Go.Proofs.Ytjepmnmakemfoaa.Ev

/- The text of a table; comparisons. -/
namespace Go.Proofs.Ytjepmnmakemfoaa.Ev
set_option linter.all false
open Go
set_option maxRecDepth 4000

noncomputable def addR (s : ByteArray) (z : Rw) : ByteArray := s ++ varB z.1 ++ varB z.2.1 ++ varB z.2.2
noncomputable def showN (l : List Rw) (i : Nat) : ByteArray := (l.take i).foldl addR (varB l.length)
noncomputable def showB (l : List Rw) : ByteArray := if tbOk l = true then showN l l.length else ⟨#[]⟩
end Go.Proofs.Ytjepmnmakemfoaa.Ev

/- Numbers read one behind the other: both ways. -/
namespace Go.Proofs.Ytjepmnmakemfoaa.Ev
set_option linter.all false
open Go
set_option maxRecDepth 4000

noncomputable def stepP (s : ByteArray) : Option Nat → Option Nat
  | some a => if (rdV (rest s a)).2 = 0 then none else some (a + (rdV (rest s a)).2)
  | none => none
noncomputable def valP (s : ByteArray) : Option Nat → Int
  | some a => if (rdV (rest s a)).2 = 0 then 0 else ((rdV (rest s a)).1 : Nat)
  | none => 0
noncomputable def posI (s : ByteArray) (o : Option Nat) : Nat → Option Nat
  | 0 => o
  | n + 1 => stepP s (posI s o n)
abbrev SlI (H : Hp) (v : Value) (l : List Int) : Prop := Sl (En eI) 1 H v l
theorem Sl.int {H : Hp} {v : Value} {l : List Int} (h : SlI H v l) {i : Nat} {a : Int} (hi : l[i]? = some a) : ∃ id p o, H[id]? = some o ∧ o[p]? = some (.int .i64 a) ∧
    ∀ (s : St) (x y : X), exv s.ρ x = some v → exv s.ρ y = some (.int .i64 i) → iadrK s 1 x y = some (.val (.pointer (some ⟨id, p, some o.length⟩)), s) := by
  obtain ⟨id, p, o, ho, hr, hp, hia⟩ := h.elem hi
  unfold En at hr
  exact ⟨id, p, o, ho, by simpa [eI] using getElem?_of_take hr (j := 0) (by omega), hia⟩
/-- A reader of numbers: where it stands. -/
def Rd (H : Hp) (c : Value) (id : Nat) (s : ByteArray) (o : Option Nat) : Prop := c = .pointer (some ⟨id, 0, some 3⟩) ∧ ∃ (a : Nat) (bad : Bool), H[id]? = some [.string s, .int .i64 a, .bool bad] ∧ a ≤ s.size ∧ (∀ b, o = some b → a = b ∧ bad = false) ∧ (o = none → bad = true)
def RS (H H' : Hp) (c : Value) (id : Nat) (s : ByteArray) (o : Option Nat) : Prop := Rd H' c id s o ∧ (∀ j, j ≠ id → H'[j]? = H[j]?) ∧ H'.length = H.length
theorem Rd.lt {H : Hp} {c : Value} {id : Nat} {s : ByteArray} {o : Option Nat} (h : Rd H c id s o) : id < H.length := by
  obtain ⟨rfl, a, b, hid, _⟩ := h
  exact (List.getElem?_eq_some_iff.1 hid).1
theorem RS.pre {H H' : Hp} {c : Value} {id : Nat} {s : ByteArray} {o : Option Nat} {H0 : Hp} (h : RS H H' c id s o) (hp : H0 <+: H) (hid : H0.length ≤ id) : H0 <+: H' :=
  pre_keep hp (fun j hj => h.2.1 j (by omega)) (by have := h.2.2; omega)
theorem Sl.rs {α : Type} {R : α → List Value → Prop} {esz : Nat} {H H' : Hp} {v c : Value} {l : List α} {id : Nat} {s : ByteArray} {o : Option Nat} (h : Sl R esz H v l) (hc : RS H H' c id s o) (hid : id ∉ idsOf v) : Sl R esz H' v l :=
  h.frame (fun _ _ _ h => h) fun i off e ln cap hv => hc.2.1 i (fun e2 => hid (by subst hv; subst e2; simp [idsOf]))
theorem Rd.keep {H H' : Hp} {c : Value} {id : Nat} {s : ByteArray} {o : Option Nat} (h : Rd H c id s o) (hk : H'[id]? = H[id]?) : Rd H' c id s o := by
  obtain ⟨rfl, a, b, hid, h2⟩ := h
  exact ⟨rfl, a, b, by rw [hk]; exact hid, h2⟩

/-- How many there are, at most so many. -/
noncomputable def manyP (s : ByteArray) (most : Int) (o : Option Nat) : Option Nat := if valP s o > most then none else stepP s o
end Go.Proofs.Ytjepmnmakemfoaa.Ev

/- A row of numbers as a text, read again: plain. -/
namespace Go.Proofs.Ytjepmnmakemfoaa.Ev
set_option linter.all false
open Go

end Go.Proofs.Ytjepmnmakemfoaa.Ev

/- A table read from its text: both ways. -/
namespace Go.Proofs.Ytjepmnmakemfoaa.Ev
set_option linter.all false
open Go
set_option maxRecDepth 4000

noncomputable def hdP (s : ByteArray) : Option Nat := manyP s 20 (some 0)
noncomputable def nP (s : ByteArray) : Nat := (valP s (some 0)).toNat
noncomputable def rowP (s : ByteArray) (o : Option Nat) : Rw := (valP s o, valP s (posI s o 1), valP s (posI s o 2))
noncomputable def rowsP (s : ByteArray) (o : Option Nat) (n : Nat) : List Rw := (List.range n).map fun j => rowP s (posI s o (3 * j))
def GB (s : ByteArray) : Prop := (∃ a b, hdP s = some a ∧ posI s (some a) (3 * nP s) = some b) ∧ showB (rowsP s (hdP s) (nP s)) = s
def RB (s : ByteArray) (l : List Rw) (ok : Bool) : Prop := (GB s ∧ ok = true ∧ l = rowsP s (hdP s) (nP s)) ∨ (¬ GB s ∧ ok = false ∧ l = [])
def BsR (H : Hp) (s : ByteArray) (r : Value) (H' : Hp) : Prop := ∃ w l ok, r = .tuple #[w, .bool ok] ∧ FreshS eRw 3 H w H' l ∧ RB s l ok
theorem own_newR {H : Hp} : SlRw (H ++ [[]]) (.slice (some ⟨H.length, 0, some 3⟩) 0 (0 * 3)) [] := .inr ⟨H.length, 0, 0, [], rfl, by simp, by simp, by simp, by simp, fun i a hi => by simp at hi⟩
theorem BsR.no {H H' : Hp} {s : ByteArray} {w : Value} (h : ¬ GB s) (hf : FreshS eRw 3 H w H' []) : BsR H s (.tuple #[w, .bool false]) H' := ⟨w, [], false, rfl, hf, .inr ⟨h, rfl, rfl⟩⟩
theorem FreshS.new {H H' : Hp} (hp : H <+: H') : FreshS eRw 3 H (.slice (some ⟨H'.length, 0, some 3⟩) 0 (0 * 3)) (H' ++ [[]]) [] := ⟨hp.trans (List.prefix_append _ _), own_newR, .inr ⟨_, _, _, _, rfl, hp.length_le⟩⟩
theorem FreshS.nil {H H' : Hp} (hp : H <+: H') : FreshS eRw 3 H (.slice none 0 0) H' [] := ⟨hp, .inl ⟨rfl, rfl⟩, .inl rfl⟩
theorem Sl.oneRw {m : Md} {N : Nat} {H : Hp} {v : Value} {l : List Rw} (z : Rw) (h : SlRw H v l) (ho : OwnS N v) (hN : N ≤ H.length) (hw : ∀ id, N ≤ id → m.wr id = true) (hb : l.length < 1048576) :
    ∃ v' H', (∀ (s : St) (x y : X), s.H = H → exv s.ρ x = some v → ex s.ρ y = .vs 1 (eRw z) → appK m s 3 24 x y = some (.val v', { s with H := H' })) ∧ SlRw H' v' (l ++ [z]) ∧ OwnS N v' ∧
      (∀ j, j < H.length → j ∉ idsOf v → H'[j]? = H[j]?) ∧ H.length ≤ H'.length ∧ (∀ j ∈ idsOf v', j ∈ idsOf v ∨ H.length ≤ j) ∧ ∀ H0 : Hp, H0.length ≤ N → H0 <+: H → H0 <+: H' := by
  obtain ⟨v', H', h1, h2⟩ := h.app (m := m) (n := 1) (bytes := 24) (l2 := [z]) (cs := eRw z) ho hN hw (fun _ => rfl) (by simp) rfl (fun i b hi => by
    cases i with
    | zero => simp at hi; subst hi; rfl
    | succ i => simp at hi) (by unfold Ev.room; simp; omega) (by unfold Ev.room; simp; omega)
  exact ⟨v', H', fun s x y hH hx hy => h1 s x y hH hx (by rw [hy]; rfl), h2⟩

theorem OwnS.mono {N N' : Nat} {v : Value} (h : OwnS N v) (hn : N' ≤ N) : OwnS N' v := by
  rcases h with h | ⟨id, e, ln, cap, h, hid⟩
  · exact .inl h
  · exact .inr ⟨id, e, ln, cap, h, by omega⟩
end Go.Proofs.Ytjepmnmakemfoaa.Ev

/- A table read from its text: the program's way; the law ReadTab. -/
namespace Go.Proofs.Ytjepmnmakemfoaa.Ev
set_option linter.all false
open Go
set_option maxRecDepth 4000

end Go.Proofs.Ytjepmnmakemfoaa.Ev

/- What a table's text says is the table: plain. -/
namespace Go.Proofs.Ytjepmnmakemfoaa.Ev
set_option linter.all false
open Go

theorem tb_row {l : List Rw} (h : TbOk l) {z : Rw} (hz : z ∈ l) : rowOkB z = true := by
  obtain ⟨j, hj, rfl⟩ := List.mem_iff_getElem.1 hz
  exact ((rowAt_at hj).1 (h.2 j hj)).1

end Go.Proofs.Ytjepmnmakemfoaa.Ev

/- Code of the program's functions, as the small machine has it: written by mkcode.py. -/
namespace Go.Proofs.Ytjepmnmakemfoaa.Ev
set_option linter.all false
open Go
def c9 : CF := ⟨63, (.seq (.reg false [⟨(some 2), .none, (.mov (.c (.bool false))), 0, []⟩]) (.seq (.seq (.reg false [⟨(some 11), .none, (.mov (.t 0)), 0, []⟩, ⟨(some 12), .none, (.call 33 [(.t 11)]), 1, []⟩]) (.cond (.t 12) (.seq (.reg false [⟨(some 2), .none, (.mov (.c (.bool true))), 0, []⟩]) .ret) .skip)) (.seq (.reg false [⟨(some 13), .none, (.mov (.t 0)), 0, []⟩, ⟨(some 14), .none, (.call 34 [(.t 13)]), 1, []⟩, ⟨(some 3), .none, (.mov (.t 14)), 2, []⟩]) (.seq (.reg false [⟨(some 16), .none, (.mov (.t 3)), 0, []⟩, ⟨(some 17), .none, (.call 26 [(.t 16)]), 1, []⟩, ⟨(some 18), .none, (.call 32 [(.t 17)]), 2, []⟩, ⟨(some 15), .none, (.mov (.t 18)), 3, []⟩, ⟨(some 19), .none, (.ext (.t 15) 0), 4, []⟩, ⟨(some 20), .none, (.ext (.t 15) 1), 5, []⟩, ⟨(some 4), .none, (.mov (.t 19)), 6, []⟩, ⟨(some 5), .none, (.mov (.t 20)), 7, []⟩]) (.seq (.reg false [⟨(some 21), .none, (.mov (.t 0)), 0, []⟩, ⟨(some 22), .none, (.call 35 [(.t 21)]), 1, []⟩, ⟨(some 6), .none, (.mov (.t 22)), 2, []⟩]) (.seq (.reg false [⟨(some 24), .none, (.mov (.t 6)), 0, []⟩, ⟨(some 25), .none, (.call 32 [(.t 24)]), 1, []⟩, ⟨(some 23), .none, (.mov (.t 25)), 2, []⟩, ⟨(some 26), .none, (.ext (.t 23) 0), 3, []⟩, ⟨(some 27), .none, (.ext (.t 23) 1), 4, []⟩, ⟨(some 7), .none, (.mov (.t 26)), 5, []⟩, ⟨(some 8), .none, (.mov (.t 27)), 6, []⟩]) (.seq (.reg false [⟨(some 29), .none, (.mov (.t 6)), 0, []⟩, ⟨(some 30), .none, (.call 31 [(.t 29)]), 1, []⟩, ⟨(some 28), .none, (.mov (.t 30)), 2, []⟩, ⟨(some 31), .none, (.ext (.t 28) 0), 3, []⟩, ⟨(some 32), .none, (.ext (.t 28) 1), 4, []⟩, ⟨(some 9), .none, (.mov (.t 31)), 5, []⟩, ⟨(some 10), .none, (.mov (.t 32)), 6, []⟩]) (.seq (.reg false [⟨(some 33), .none, (.mov (.t 5)), 0, []⟩, ⟨(some 34), .none, (.mov (.t 3)), 1, []⟩, ⟨(some 35), .none, (.call 16 [(.t 34)]), 2, []⟩, ⟨(some 36), .none, (.beq false (.t 33) (.t 35)), 3, []⟩, ⟨(some 37), .none, (.mov (.t 36)), 4, []⟩, ⟨(some 38), (.some (37, true)), (.mov (.t 5)), 5, []⟩, ⟨(some 39), (.some (37, true)), (.un .not (.t 38)), 6, []⟩, ⟨(some 40), (.some (37, true)), (.mov (.t 39)), 7, []⟩, ⟨(some 41), (.some (40, false)), (.mov (.t 4)), 8, []⟩, ⟨(some 42), (.some (40, false)), (.call 25 [(.t 41)]), 9, []⟩, ⟨(some 43), (.some (40, false)), (.mov (.t 3)), 10, []⟩, ⟨(some 44), (.some (40, false)), (.call 25 [(.t 43)]), 11, []⟩, ⟨(some 45), (.some (40, false)), (.bin .eql (.t 42) (.t 44)), 12, []⟩, ⟨(some 46), (.some (37, true)), (.pick (.t 40) (.c (.bool true)) (.t 45)), 13, []⟩, ⟨(some 47), .none, (.pick (.t 37) (.t 46) (.c (.bool false))), 14, []⟩, ⟨(some 48), .none, (.mov (.t 47)), 15, []⟩, ⟨(some 49), (.some (48, true)), (.mov (.t 8)), 16, []⟩, ⟨(some 50), (.some (48, true)), (.mov (.t 10)), 17, []⟩, ⟨(some 51), (.some (48, true)), (.beq false (.t 49) (.t 50)), 18, []⟩, ⟨(some 52), .none, (.pick (.t 48) (.t 51) (.c (.bool false))), 19, []⟩, ⟨(some 53), .none, (.mov (.t 52)), 20, []⟩, ⟨(some 54), (.some (53, true)), (.mov (.t 8)), 21, []⟩, ⟨(some 55), (.some (53, true)), (.un .not (.t 54)), 22, []⟩, ⟨(some 56), (.some (53, true)), (.mov (.t 55)), 23, []⟩, ⟨(some 57), (.some (56, false)), (.mov (.t 7)), 24, []⟩, ⟨(some 58), (.some (56, false)), (.call 26 [(.t 57)]), 25, []⟩, ⟨(some 59), (.some (56, false)), (.mov (.t 6)), 26, []⟩, ⟨(some 60), (.some (56, false)), (.bin .eql (.t 58) (.t 59)), 27, []⟩, ⟨(some 61), (.some (53, true)), (.pick (.t 56) (.c (.bool true)) (.t 60)), 28, []⟩, ⟨(some 62), .none, (.pick (.t 53) (.t 61) (.c (.bool false))), 29, []⟩, ⟨(some 2), .none, (.mov (.t 62)), 30, []⟩]) .ret)))))))), [(.t 2)]⟩
theorem k9 : EE.fns 9 = some c9 := by kernel_rfl
def c36 : CF := ⟨92, (.seq (.reg false [⟨(some 6), .none, (.mov (.c (.slice .none 0 0))), 0, []⟩, ⟨(some 7), .none, (.mov (.c (.bool false))), 1, []⟩]) (.seq (.seq (.reg false [⟨(some 13), .none, (.mov (.t 0)), 0, []⟩, ⟨(some 14), .none, (.call 16 [(.t 13)]), 1, []⟩, ⟨(some 15), .none, (.un .not (.t 14)), 2, []⟩]) (.cond (.t 15) (.seq (.reg false [⟨(some 16), .none, (.mkO 0 3 [(.int .i64 0), (.int .i64 0), (.int .i64 0)] []), 0, []⟩, ⟨(some 6), .none, (.mov (.t 16)), 1, []⟩, ⟨(some 7), .none, (.mov (.c (.bool false))), 2, []⟩]) .ret) .skip)) (.seq (.reg false [⟨(some 17), .none, (.mkO 0 3 [(.int .i64 0), (.int .i64 0), (.int .i64 0)] []), 0, []⟩, ⟨(some 18), .none, (.mov (.t 0)), 1, []⟩, ⟨(some 19), .none, (.app 3 24 (.t 17) (.t 18)), 2, []⟩, ⟨(some 8), .none, (.mov (.t 19)), 3, []⟩]) (.seq (.reg false [⟨(some 20), .none, (.mov (.t 0)), 0, []⟩, ⟨(some 21), .none, (.mov (.t 1)), 1, []⟩, ⟨(some 22), .none, (.call 68 [(.t 20), (.t 21)]), 2, []⟩, ⟨(some 23), .none, (.bin .add (.t 22) (.c (.int .i64 1))), 3, []⟩, ⟨(some 9), .none, (.mov (.t 23)), 4, []⟩]) (.seq (.seq (.reg false [⟨(some 24), .none, (.mov (.t 1)), 0, []⟩, ⟨(some 25), .none, (.call 52 [(.t 24), (.c (.int .i64 0)), (.c (.int .i64 99))]), 1, []⟩, ⟨(some 26), .none, (.un .not (.t 25)), 2, []⟩, ⟨(some 27), .none, (.mov (.t 26)), 3, []⟩, ⟨(some 28), (.some (27, false)), (.mov (.t 2)), 4, []⟩, ⟨(some 29), (.some (27, false)), (.call 52 [(.t 28), (.c (.int .i64 1)), (.c (.int .i64 1000000))]), 5, []⟩, ⟨(some 30), (.some (27, false)), (.un .not (.t 29)), 6, []⟩, ⟨(some 31), .none, (.pick (.t 27) (.c (.bool true)) (.t 30)), 7, []⟩, ⟨(some 32), .none, (.mov (.t 31)), 8, []⟩, ⟨(some 33), (.some (32, false)), (.mov (.t 0)), 9, []⟩, ⟨(some 34), (.some (32, false)), (.lenS (.t 33)), 10, []⟩, ⟨(some 35), (.some (32, false)), (.bin .geq (.t 34) (.c (.int .i64 20))), 11, []⟩, ⟨(some 36), .none, (.pick (.t 32) (.c (.bool true)) (.t 35)), 12, []⟩, ⟨(some 37), .none, (.mov (.t 36)), 13, []⟩, ⟨(some 38), (.some (37, false)), (.mov (.t 9)), 14, []⟩, ⟨(some 39), (.some (37, false)), (.bin .gtr (.t 38) (.c (.int .i64 1000))), 15, []⟩, ⟨(some 40), .none, (.pick (.t 37) (.c (.bool true)) (.t 39)), 16, []⟩]) (.cond (.t 40) (.seq (.reg false [⟨(some 41), .none, (.mov (.t 8)), 0, []⟩, ⟨(some 6), .none, (.mov (.t 41)), 1, []⟩, ⟨(some 7), .none, (.mov (.c (.bool false))), 2, []⟩]) .ret) .skip)) (.seq (.reg false [⟨(some 42), .none, (.mkO 0 3 [(.int .i64 0), (.int .i64 0), (.int .i64 0)] []), 0, []⟩, ⟨(some 10), .none, (.mov (.t 42)), 1, []⟩]) (.seq (.reg false [⟨(some 11), .none, (.mov (.c (.bool false))), 0, []⟩]) (.seq (.seq (.reg false [⟨(some 12), .none, (.mov (.c (.int .i64 0))), 0, []⟩]) (.block 0 (.loop (.seq (.seq (.reg false [⟨(some 43), .none, (.mov (.t 12)), 0, []⟩, ⟨(some 44), .none, (.mov (.t 0)), 1, []⟩, ⟨(some 45), .none, (.lenS (.t 44)), 2, []⟩, ⟨(some 46), .none, (.bin .lss (.t 43) (.t 45)), 3, []⟩]) (.cond (.t 46) .skip (.exit 0))) (.seq (.block 1 (.seq (.seq (.reg false [⟨(some 49), .none, (.mov (.t 0)), 0, []⟩, ⟨(some 50), .none, (.mov (.t 12)), 1, []⟩, ⟨(some 51), .none, (.iadr 3 (.t 49) (.t 50)), 2, []⟩, ⟨(some 52), .none, (.fadr 2 (.t 51)), 3, []⟩, ⟨(some 53), .none, (.load 1 false (.t 52)), 4, []⟩, ⟨(some 54), .none, (.mov (.t 2)), 5, []⟩, ⟨(some 55), .none, (.bin .eql (.t 53) (.t 54)), 6, []⟩]) (.cond (.t 55) (.seq (.reg false [⟨(some 56), .none, (.mov (.t 8)), 0, []⟩, ⟨(some 6), .none, (.mov (.t 56)), 1, []⟩, ⟨(some 7), .none, (.mov (.c (.bool false))), 2, []⟩]) .ret) .skip)) (.seq (.seq (.reg false [⟨(some 57), .none, (.mov (.t 11)), 0, []⟩, ⟨(some 58), .none, (.un .not (.t 57)), 1, []⟩, ⟨(some 59), .none, (.mov (.t 58)), 2, []⟩, ⟨(some 60), (.some (59, true)), (.mov (.t 0)), 3, []⟩, ⟨(some 61), (.some (59, true)), (.mov (.t 12)), 4, []⟩, ⟨(some 62), (.some (59, true)), (.iadr 3 (.t 60) (.t 61)), 5, []⟩, ⟨(some 63), (.some (59, true)), (.fadr 0 (.t 62)), 6, []⟩, ⟨(some 64), (.some (59, true)), (.load 1 false (.t 63)), 7, []⟩, ⟨(some 65), (.some (59, true)), (.mov (.t 1)), 8, []⟩, ⟨(some 66), (.some (59, true)), (.bin .gtr (.t 64) (.t 65)), 9, []⟩, ⟨(some 67), .none, (.pick (.t 59) (.t 66) (.c (.bool false))), 10, []⟩]) (.cond (.t 67) (.seq (.reg false [⟨(some 68), .none, (.mov (.t 10)), 0, []⟩, ⟨(some 69), .none, (.mov (.t 1)), 1, []⟩, ⟨(some 70), .none, (.mov (.t 9)), 2, []⟩, ⟨(some 71), .none, (.mov (.t 2)), 3, []⟩, ⟨(some 72), .none, (.build [(.int .i64 0), (.int .i64 0), (.int .i64 0)] [(0, (1, (.t 69))), (1, (1, (.t 70))), (2, (1, (.t 71)))]), 4, []⟩, ⟨(some 73), .none, (.mkV 1 3 [(.int .i64 0), (.int .i64 0), (.int .i64 0)] [(0, (.t 72))]), 5, []⟩, ⟨(some 74), .none, (.app 3 24 (.t 68) (.t 73)), 6, []⟩, ⟨(some 10), .none, (.mov (.t 74)), 7, []⟩]) (.reg false [⟨(some 11), .none, (.mov (.c (.bool true))), 0, []⟩])) .skip)) (.reg false [⟨(some 75), .none, (.mov (.t 10)), 0, []⟩, ⟨(some 76), .none, (.mov (.t 0)), 1, []⟩, ⟨(some 77), .none, (.mov (.t 12)), 2, []⟩, ⟨(some 78), .none, (.iadr 3 (.t 76) (.t 77)), 3, []⟩, ⟨(some 79), .none, (.load 3 true (.t 78)), 4, []⟩, ⟨(some 80), .none, (.mkV 1 3 [(.int .i64 0), (.int .i64 0), (.int .i64 0)] [(0, (.t 79))]), 5, []⟩, ⟨(some 81), .none, (.app 3 24 (.t 75) (.t 80)), 6, []⟩, ⟨(some 10), .none, (.mov (.t 81)), 7, []⟩])))) (.reg false [⟨(some 47), .none, (.mov (.t 12)), 0, []⟩, ⟨(some 48), .none, (.bin .add (.t 47) (.c (.int .i64 1))), 1, []⟩, ⟨(some 12), .none, (.mov (.t 48)), 2, []⟩])))))) (.seq (.seq (.reg false [⟨(some 82), .none, (.mov (.t 11)), 0, []⟩, ⟨(some 83), .none, (.un .not (.t 82)), 1, []⟩]) (.cond (.t 83) (.reg false [⟨(some 84), .none, (.mov (.t 10)), 0, []⟩, ⟨(some 85), .none, (.mov (.t 1)), 1, []⟩, ⟨(some 86), .none, (.mov (.t 9)), 2, []⟩, ⟨(some 87), .none, (.mov (.t 2)), 3, []⟩, ⟨(some 88), .none, (.build [(.int .i64 0), (.int .i64 0), (.int .i64 0)] [(0, (1, (.t 85))), (1, (1, (.t 86))), (2, (1, (.t 87)))]), 4, []⟩, ⟨(some 89), .none, (.mkV 1 3 [(.int .i64 0), (.int .i64 0), (.int .i64 0)] [(0, (.t 88))]), 5, []⟩, ⟨(some 90), .none, (.app 3 24 (.t 84) (.t 89)), 6, []⟩, ⟨(some 10), .none, (.mov (.t 90)), 7, []⟩]) .skip)) (.seq (.reg false [⟨(some 91), .none, (.mov (.t 10)), 0, []⟩, ⟨(some 6), .none, (.mov (.t 91)), 1, []⟩, ⟨(some 7), .none, (.mov (.c (.bool true))), 2, []⟩]) .ret)))))))))), [(.t 6), (.t 7)]⟩
theorem k36 : EE.fns 36 = some c36 := by kernel_rfl
def c27 : CF := ⟨52, (.seq (.reg false [⟨(some 4), .none, (.mov (.c (.slice .none 0 0))), 0, []⟩]) (.seq (.reg false [⟨(some 9), .none, (.mkO 0 3 [(.int .i64 0), (.int .i64 0), (.int .i64 0)] []), 0, []⟩, ⟨(some 5), .none, (.mov (.t 9)), 1, []⟩]) (.seq (.seq (.reg false [⟨(some 6), .none, (.mov (.c (.int .i64 0))), 0, []⟩]) (.block 0 (.loop (.seq (.seq (.reg false [⟨(some 10), .none, (.mov (.t 6)), 0, []⟩, ⟨(some 11), .none, (.mov (.t 0)), 1, []⟩, ⟨(some 12), .none, (.lenS (.t 11)), 2, []⟩, ⟨(some 13), .none, (.bin .lss (.t 10) (.t 12)), 3, []⟩, ⟨(some 14), .none, (.mov (.t 13)), 4, []⟩, ⟨(some 15), (.some (14, true)), (.mov (.t 0)), 5, []⟩, ⟨(some 16), (.some (14, true)), (.call 16 [(.t 15)]), 6, []⟩, ⟨(some 17), .none, (.pick (.t 14) (.t 16) (.c (.bool false))), 7, []⟩]) (.cond (.t 17) .skip (.exit 0))) (.seq (.block 1 (.seq (.reg false [⟨(some 7), .none, (.mov (.c (.int .i64 0))), 0, []⟩]) (.seq (.seq (.reg false [⟨(some 20), .none, (.mov (.t 6)), 0, []⟩, ⟨(some 21), .none, (.bin .add (.t 20) (.c (.int .i64 1))), 1, []⟩, ⟨(some 8), .none, (.mov (.t 21)), 2, []⟩]) (.block 2 (.loop (.seq (.seq (.reg false [⟨(some 22), .none, (.mov (.t 8)), 0, []⟩, ⟨(some 23), .none, (.mov (.t 0)), 1, []⟩, ⟨(some 24), .none, (.lenS (.t 23)), 2, []⟩, ⟨(some 25), .none, (.bin .lss (.t 22) (.t 24)), 3, []⟩]) (.cond (.t 25) .skip (.exit 2))) (.seq (.block 3 (.seq (.reg true [⟨(some 28), .none, (.mov (.t 0)), 0, []⟩, ⟨(some 29), .none, (.mov (.t 8)), 1, []⟩, ⟨(some 30), .none, (.iadr 3 (.t 28) (.t 29)), 2, [0, 1]⟩, ⟨(some 31), .none, (.fadr 0 (.t 30)), 3, [2, 0, 1]⟩, ⟨(some 32), .none, (.load 1 false (.t 31)), 4, [3, 2, 0, 1]⟩, ⟨(some 33), .none, (.mov (.t 0)), 5, []⟩, ⟨(some 34), .none, (.mov (.t 6)), 6, []⟩, ⟨(some 35), .none, (.iadr 3 (.t 33) (.t 34)), 7, [5, 6]⟩, ⟨(some 36), .none, (.fadr 0 (.t 35)), 8, [7, 5, 6]⟩, ⟨(some 37), .none, (.load 1 false (.t 36)), 9, [8, 7, 5, 6]⟩, ⟨(some 38), .none, (.bin .eql (.t 32) (.t 37)), 10, [4, 3, 2, 0, 1, 9, 8, 7, 5, 6]⟩]) (.cond (.t 38) (.reg false [⟨(some 39), .none, (.mov (.t 7)), 0, []⟩, ⟨(some 40), .none, (.bin .add (.t 39) (.c (.int .i64 1))), 1, []⟩, ⟨(some 7), .none, (.mov (.t 40)), 2, []⟩]) .skip))) (.reg false [⟨(some 26), .none, (.mov (.t 8)), 0, []⟩, ⟨(some 27), .none, (.bin .add (.t 26) (.c (.int .i64 1))), 1, []⟩, ⟨(some 8), .none, (.mov (.t 27)), 2, []⟩])))))) (.seq (.reg false [⟨(some 41), .none, (.mov (.t 7)), 0, []⟩, ⟨(some 42), .none, (.mov (.t 1)), 1, []⟩, ⟨(some 43), .none, (.bin .lss (.t 41) (.t 42)), 2, []⟩]) (.cond (.t 43) (.reg false [⟨(some 44), .none, (.mov (.t 5)), 0, []⟩, ⟨(some 45), .none, (.mov (.t 0)), 1, []⟩, ⟨(some 46), .none, (.mov (.t 6)), 2, []⟩, ⟨(some 47), .none, (.iadr 3 (.t 45) (.t 46)), 3, []⟩, ⟨(some 48), .none, (.load 3 true (.t 47)), 4, []⟩, ⟨(some 49), .none, (.mkV 1 3 [(.int .i64 0), (.int .i64 0), (.int .i64 0)] [(0, (.t 48))]), 5, []⟩, ⟨(some 50), .none, (.app 3 24 (.t 44) (.t 49)), 6, []⟩, ⟨(some 5), .none, (.mov (.t 50)), 7, []⟩]) .skip))))) (.reg false [⟨(some 18), .none, (.mov (.t 6)), 0, []⟩, ⟨(some 19), .none, (.bin .add (.t 18) (.c (.int .i64 1))), 1, []⟩, ⟨(some 6), .none, (.mov (.t 19)), 2, []⟩])))))) (.seq (.reg false [⟨(some 51), .none, (.mov (.t 5)), 0, []⟩, ⟨(some 4), .none, (.mov (.t 51)), 1, []⟩]) .ret)))), [(.t 4)]⟩
theorem k27 : EE.fns 27 = some c27 := by kernel_rfl
def c64 : CF := ⟨32, (.seq (.reg false [⟨(some 2), .none, (.mov (.c (.pointer .none))), 0, []⟩]) (.seq (.reg false [⟨(some 5), .none, (.mov (.t 0)), 0, []⟩, ⟨(some 6), .none, (.lenS (.t 5)), 1, []⟩, ⟨(some 7), .none, (.bin .add (.c (.int .i64 10101)) (.t 6)), 2, []⟩, ⟨(some 3), .none, (.mov (.t 7)), 3, []⟩]) (.seq (.seq (.reg false [⟨(some 4), .none, (.mov (.c (.int .i64 0))), 0, []⟩]) (.block 0 (.loop (.seq (.seq (.reg false [⟨(some 8), .none, (.mov (.t 4)), 0, []⟩, ⟨(some 9), .none, (.mov (.t 0)), 1, []⟩, ⟨(some 10), .none, (.lenS (.t 9)), 2, []⟩, ⟨(some 11), .none, (.bin .lss (.t 8) (.t 10)), 3, []⟩, ⟨(some 12), .none, (.mov (.t 11)), 4, []⟩, ⟨(some 13), (.some (12, true)), (.mov (.t 4)), 5, []⟩, ⟨(some 14), (.some (12, true)), (.bin .lss (.t 13) (.c (.int .i64 4000))), 6, []⟩, ⟨(some 15), .none, (.pick (.t 12) (.t 14) (.c (.bool false))), 7, []⟩]) (.cond (.t 15) .skip (.exit 0))) (.seq (.block 1 (.reg false [⟨(some 18), .none, (.mov (.t 3)), 0, []⟩, ⟨(some 19), .none, (.bin .mul (.t 18) (.c (.int .i64 131))), 1, []⟩, ⟨(some 20), .none, (.mov (.t 0)), 2, []⟩, ⟨(some 21), .none, (.mov (.t 4)), 3, []⟩, ⟨(some 22), .none, (.iadr 1 (.t 20) (.t 21)), 4, []⟩, ⟨(some 23), .none, (.load 1 false (.t 22)), 5, []⟩, ⟨(some 24), .none, (.toInt .i64 (.t 23)), 6, []⟩, ⟨(some 25), .none, (.bin .add (.t 19) (.t 24)), 7, []⟩, ⟨(some 26), .none, (.bin .add (.t 25) (.c (.int .i64 7))), 8, []⟩, ⟨(some 27), .none, (.bin .and (.t 26) (.c (.int .i64 1073741823))), 9, []⟩, ⟨(some 3), .none, (.mov (.t 27)), 10, []⟩])) (.reg false [⟨(some 16), .none, (.mov (.t 4)), 0, []⟩, ⟨(some 17), .none, (.bin .add (.t 16) (.c (.int .i64 1))), 1, []⟩, ⟨(some 4), .none, (.mov (.t 17)), 2, []⟩])))))) (.seq (.reg false [⟨(some 28), .none, (.mov (.t 0)), 0, []⟩, ⟨(some 29), .none, (.mov (.t 3)), 1, []⟩, ⟨(some 30), .none, (.build [(.slice .none 0 0), (.int .i64 0), (.int .i64 0)] [(0, (1, (.t 28))), (2, (1, (.t 29)))]), 2, []⟩, ⟨(some 31), .none, (.boxO (.t 30)), 3, []⟩, ⟨(some 2), .none, (.mov (.t 31)), 4, []⟩]) .ret)))), [(.t 2)]⟩
theorem k64 : EE.fns 64 = some c64 := by kernel_rfl
def c65 : CF := ⟨76, (.seq (.reg false [⟨(some 2), .none, (.mov (.c (.slice .none 0 0))), 0, []⟩]) (.seq (.reg false [⟨(some 9), .none, (.mkO 0 3 [(.int .i64 0), (.int .i64 0), (.int .i64 0)] []), 0, []⟩, ⟨(some 3), .none, (.mov (.t 9)), 1, []⟩]) (.seq (.reg false [⟨(some 4), .none, (.mov (.c (.int .i64 5))), 0, []⟩]) (.seq (.seq (.reg false [⟨(some 10), .none, (.mov (.t 0)), 0, []⟩, ⟨(some 11), .none, (.call 89 [(.t 10), (.c (.int .i64 12))]), 1, []⟩, ⟨(some 5), .none, (.mov (.t 11)), 2, []⟩]) (.block 0 (.loop (.seq (.seq (.reg false [⟨(some 12), .none, (.mov (.t 5)), 0, []⟩, ⟨(some 13), .none, (.bin .gtr (.t 12) (.c (.int .i64 0))), 1, []⟩]) (.cond (.t 13) .skip (.exit 0))) (.seq (.block 1 (.seq (.reg false [⟨(some 17), .none, (.mov (.t 3)), 0, []⟩, ⟨(some 18), .none, (.mov (.t 0)), 1, []⟩, ⟨(some 19), .none, (.call 89 [(.t 18), (.c (.int .i64 4))]), 2, []⟩, ⟨(some 20), .none, (.mov (.t 4)), 3, []⟩, ⟨(some 21), .none, (.call 36 [(.t 17), (.t 19), (.t 20)]), 4, []⟩, ⟨(some 16), .none, (.mov (.t 21)), 5, []⟩, ⟨(some 22), .none, (.ext (.t 16) 0), 6, []⟩, ⟨(some 23), .none, (.ext (.t 16) 1), 7, []⟩, ⟨(some 6), .none, (.mov (.t 22)), 8, []⟩, ⟨(some 7), .none, (.mov (.t 23)), 9, []⟩]) (.seq (.reg false [⟨(some 24), .none, (.mov (.t 6)), 0, []⟩, ⟨(some 3), .none, (.mov (.t 24)), 1, []⟩]) (.reg false [⟨(some 25), .none, (.mov (.t 4)), 0, []⟩, ⟨(some 26), .none, (.bin .add (.t 25) (.c (.int .i64 1))), 1, []⟩, ⟨(some 27), .none, (.mov (.t 0)), 2, []⟩, ⟨(some 28), .none, (.call 89 [(.t 27), (.c (.int .i64 2))]), 3, []⟩, ⟨(some 29), .none, (.bin .add (.t 26) (.t 28)), 4, []⟩, ⟨(some 4), .none, (.mov (.t 29)), 5, []⟩])))) (.reg false [⟨(some 14), .none, (.mov (.t 5)), 0, []⟩, ⟨(some 15), .none, (.bin .sub (.t 14) (.c (.int .i64 1))), 1, []⟩, ⟨(some 5), .none, (.mov (.t 15)), 2, []⟩])))))) (.seq (.seq (.reg false [⟨(some 30), .none, (.mov (.t 0)), 0, []⟩, ⟨(some 31), .none, (.call 66 [(.t 30), (.c (.int .i64 4))]), 1, []⟩]) (.cond (.t 31) (.reg false [⟨(some 32), .none, (.mov (.t 3)), 0, []⟩, ⟨(some 33), .none, (.mov (.t 0)), 1, []⟩, ⟨(some 34), .none, (.call 89 [(.t 33), (.c (.int .i64 2))]), 2, []⟩, ⟨(some 35), .none, (.bin .add (.c (.int .i64 1)) (.t 34)), 3, []⟩, ⟨(some 36), .none, (.call 27 [(.t 32), (.t 35)]), 4, []⟩, ⟨(some 3), .none, (.mov (.t 36)), 5, []⟩]) .skip)) (.seq (.seq (.reg false [⟨(some 37), .none, (.mov (.t 3)), 0, []⟩, ⟨(some 38), .none, (.lenS (.t 37)), 1, []⟩, ⟨(some 39), .none, (.bin .gtr (.t 38) (.c (.int .i64 0))), 2, []⟩, ⟨(some 40), .none, (.mov (.t 39)), 3, []⟩, ⟨(some 41), (.some (40, true)), (.mov (.t 0)), 4, []⟩, ⟨(some 42), (.some (40, true)), (.call 66 [(.t 41), (.c (.int .i64 10))]), 5, []⟩, ⟨(some 43), .none, (.pick (.t 40) (.t 42) (.c (.bool false))), 6, []⟩]) (.cond (.t 43) (.seq (.reg false [⟨(some 44), .none, (.mov (.t 0)), 0, []⟩, ⟨(some 45), .none, (.mov (.t 3)), 1, []⟩, ⟨(some 46), .none, (.lenS (.t 45)), 2, []⟩, ⟨(some 47), .none, (.call 89 [(.t 44), (.t 46)]), 3, []⟩, ⟨(some 8), .none, (.mov (.t 47)), 4, []⟩]) (.seq (.reg false [⟨(some 48), .none, (.mov (.t 0)), 0, []⟩, ⟨(some 49), .none, (.call 89 [(.t 48), (.c (.int .i64 3))]), 1, []⟩]) (.block 2 (.seq (.reg false [⟨(some 58), .none, (.bin .eql (.t 49) (.c (.int .i64 0))), 0, []⟩, ⟨(some 57), .none, (.mov (.t 58)), 1, []⟩]) (.cond (.t 57) (.reg false [⟨(some 59), .none, (.mov (.t 3)), 0, []⟩, ⟨(some 60), .none, (.mov (.t 8)), 1, []⟩, ⟨(some 61), .none, (.mov (.t 0)), 2, []⟩, ⟨(some 62), .none, (.mkO 4 1 [(.int .i64 0)] [(0, (.c (.int .i64 (-1)))), (1, (.c (.int .i64 1))), (2, (.c (.int .i64 99))), (3, (.c (.int .i64 100)))]), 3, []⟩, ⟨(some 63), .none, (.call 71 [(.t 61), (.t 62)]), 4, []⟩, ⟨(some 64), .none, (.iadr 3 (.t 59) (.t 60)), 5, []⟩, ⟨(some 65), .none, (.fadr 0 (.t 64)), 6, []⟩, ⟨.none, .none, (.store 1 (.t 65) (.t 63)), 7, []⟩]) (.seq (.reg false [⟨(some 67), .none, (.bin .eql (.t 49) (.c (.int .i64 1))), 0, []⟩, ⟨(some 66), .none, (.mov (.t 67)), 1, []⟩]) (.cond (.t 66) (.reg false [⟨(some 68), .none, (.mov (.t 3)), 0, []⟩, ⟨(some 69), .none, (.mov (.t 8)), 1, []⟩, ⟨(some 70), .none, (.mov (.t 0)), 2, []⟩, ⟨(some 71), .none, (.mkO 4 1 [(.int .i64 0)] [(0, (.c (.int .i64 0))), (1, (.c (.int .i64 1))), (2, (.c (.int .i64 1000))), (3, (.c (.int .i64 1001)))]), 3, []⟩, ⟨(some 72), .none, (.call 71 [(.t 70), (.t 71)]), 4, []⟩, ⟨(some 73), .none, (.iadr 3 (.t 68) (.t 69)), 5, []⟩, ⟨(some 74), .none, (.fadr 1 (.t 73)), 6, []⟩, ⟨.none, .none, (.store 1 (.t 74) (.t 72)), 7, []⟩]) (.reg false [⟨(some 50), .none, (.mov (.t 3)), 0, []⟩, ⟨(some 51), .none, (.mov (.t 8)), 1, []⟩, ⟨(some 52), .none, (.mov (.t 0)), 2, []⟩, ⟨(some 53), .none, (.mkO 3 1 [(.int .i64 0)] [(0, (.c (.int .i64 0))), (1, (.c (.int .i64 6))), (2, (.c (.int .i64 1000001)))]), 3, []⟩, ⟨(some 54), .none, (.call 71 [(.t 52), (.t 53)]), 4, []⟩, ⟨(some 55), .none, (.iadr 3 (.t 50) (.t 51)), 5, []⟩, ⟨(some 56), .none, (.fadr 2 (.t 55)), 6, []⟩, ⟨.none, .none, (.store 1 (.t 56) (.t 54)), 7, []⟩])))))))) .skip)) (.seq (.reg false [⟨(some 75), .none, (.mov (.t 3)), 0, []⟩, ⟨(some 2), .none, (.mov (.t 75)), 1, []⟩]) .ret))))))), [(.t 2)]⟩
theorem k65 : EE.fns 65 = some c65 := by kernel_rfl
def c66 : CF := ⟨9, (.seq (.reg false [⟨(some 4), .none, (.mov (.c (.bool false))), 0, []⟩]) (.seq (.reg false [⟨(some 5), .none, (.mov (.t 0)), 0, []⟩, ⟨(some 6), .none, (.mov (.t 1)), 1, []⟩, ⟨(some 7), .none, (.call 89 [(.t 5), (.t 6)]), 2, []⟩, ⟨(some 8), .none, (.bin .eql (.t 7) (.c (.int .i64 0))), 3, []⟩, ⟨(some 4), .none, (.mov (.t 8)), 4, []⟩]) .ret)), [(.t 4)]⟩
theorem k66 : EE.fns 66 = some c66 := by kernel_rfl
def c68 : CF := ⟨26, (.seq (.reg false [⟨(some 4), .none, (.mov (.c (.int .i64 0))), 0, []⟩]) (.seq (.reg false [⟨(some 5), .none, (.mov (.c (.int .i64 0))), 0, []⟩]) (.seq (.seq (.reg false [⟨(some 6), .none, (.mov (.c (.int .i64 0))), 0, []⟩]) (.block 0 (.loop (.seq (.seq (.reg false [⟨(some 7), .none, (.mov (.t 6)), 0, []⟩, ⟨(some 8), .none, (.mov (.t 0)), 1, []⟩, ⟨(some 9), .none, (.lenS (.t 8)), 2, []⟩, ⟨(some 10), .none, (.bin .lss (.t 7) (.t 9)), 3, []⟩]) (.cond (.t 10) .skip (.exit 0))) (.seq (.block 1 (.seq (.reg false [⟨(some 13), .none, (.mov (.t 0)), 0, []⟩, ⟨(some 14), .none, (.mov (.t 6)), 1, []⟩, ⟨(some 15), .none, (.iadr 3 (.t 13) (.t 14)), 2, []⟩, ⟨(some 16), .none, (.fadr 0 (.t 15)), 3, []⟩, ⟨(some 17), .none, (.load 1 false (.t 16)), 4, []⟩, ⟨(some 18), .none, (.mov (.t 1)), 5, []⟩, ⟨(some 19), .none, (.bin .eql (.t 17) (.t 18)), 6, []⟩]) (.cond (.t 19) (.reg false [⟨(some 20), .none, (.mov (.t 0)), 0, []⟩, ⟨(some 21), .none, (.mov (.t 6)), 1, []⟩, ⟨(some 22), .none, (.iadr 3 (.t 20) (.t 21)), 2, []⟩, ⟨(some 23), .none, (.fadr 1 (.t 22)), 3, []⟩, ⟨(some 24), .none, (.load 1 false (.t 23)), 4, []⟩, ⟨(some 5), .none, (.mov (.t 24)), 5, []⟩]) .skip))) (.reg false [⟨(some 11), .none, (.mov (.t 6)), 0, []⟩, ⟨(some 12), .none, (.bin .add (.t 11) (.c (.int .i64 1))), 1, []⟩, ⟨(some 6), .none, (.mov (.t 12)), 2, []⟩])))))) (.seq (.reg false [⟨(some 25), .none, (.mov (.t 5)), 0, []⟩, ⟨(some 4), .none, (.mov (.t 25)), 1, []⟩]) .ret)))), [(.t 4)]⟩
theorem k68 : EE.fns 68 = some c68 := by kernel_rfl
def c71 : CF := ⟨12, (.seq (.reg false [⟨(some 4), .none, (.mov (.c (.int .i64 0))), 0, []⟩]) (.seq (.reg false [⟨(some 5), .none, (.mov (.t 1)), 0, []⟩, ⟨(some 6), .none, (.mov (.t 0)), 1, []⟩, ⟨(some 7), .none, (.mov (.t 1)), 2, []⟩, ⟨(some 8), .none, (.lenS (.t 7)), 3, []⟩, ⟨(some 9), .none, (.call 89 [(.t 6), (.t 8)]), 4, []⟩, ⟨(some 10), .none, (.iadr 1 (.t 5) (.t 9)), 5, []⟩, ⟨(some 11), .none, (.load 1 false (.t 10)), 6, []⟩, ⟨(some 4), .none, (.mov (.t 11)), 7, []⟩]) .ret)), [(.t 4)]⟩
theorem k71 : EE.fns 71 = some c71 := by kernel_rfl
def c89 : CF := ⟨37, (.seq (.reg false [⟨(some 4), .none, (.mov (.c (.int .i64 0))), 0, []⟩]) (.seq (.seq (.reg false [⟨(some 9), .none, (.mov (.t 1)), 0, []⟩, ⟨(some 10), .none, (.bin .leq (.t 9) (.c (.int .i64 0))), 1, []⟩]) (.cond (.t 10) (.seq (.reg false [⟨(some 4), .none, (.mov (.c (.int .i64 0))), 0, []⟩]) .ret) .skip)) (.seq (.seq (.reg false [⟨(some 11), .none, (.mov (.t 1)), 0, []⟩, ⟨(some 12), .none, (.bin .leq (.t 11) (.c (.int .i64 256))), 1, []⟩]) (.cond (.t 12) (.seq (.reg false [⟨(some 13), .none, (.mov (.t 0)), 0, []⟩, ⟨(some 14), .none, (.call 91 [(.t 13)]), 1, []⟩, ⟨(some 15), .none, (.mov (.t 1)), 2, []⟩, ⟨(some 16), .none, (.bin .rem (.t 14) (.t 15)), 3, []⟩, ⟨(some 4), .none, (.mov (.t 16)), 4, []⟩]) .ret) .skip)) (.seq (.reg false [⟨(some 17), .none, (.mov (.t 0)), 0, []⟩, ⟨(some 18), .none, (.call 91 [(.t 17)]), 1, []⟩, ⟨(some 5), .none, (.mov (.t 18)), 2, []⟩]) (.seq (.reg false [⟨(some 19), .none, (.mov (.t 0)), 0, []⟩, ⟨(some 20), .none, (.call 91 [(.t 19)]), 1, []⟩, ⟨(some 6), .none, (.mov (.t 20)), 2, []⟩]) (.seq (.reg false [⟨(some 21), .none, (.mov (.t 0)), 0, []⟩, ⟨(some 22), .none, (.call 91 [(.t 21)]), 1, []⟩, ⟨(some 7), .none, (.mov (.t 22)), 2, []⟩]) (.seq (.reg false [⟨(some 23), .none, (.mov (.t 0)), 0, []⟩, ⟨(some 24), .none, (.call 91 [(.t 23)]), 1, []⟩, ⟨(some 8), .none, (.mov (.t 24)), 2, []⟩]) (.seq (.reg false [⟨(some 25), .none, (.mov (.t 5)), 0, []⟩, ⟨(some 26), .none, (.bin .mul (.t 25) (.c (.int .i64 16777216))), 1, []⟩, ⟨(some 27), .none, (.mov (.t 6)), 2, []⟩, ⟨(some 28), .none, (.bin .mul (.t 27) (.c (.int .i64 65536))), 3, []⟩, ⟨(some 29), .none, (.bin .add (.t 26) (.t 28)), 4, []⟩, ⟨(some 30), .none, (.mov (.t 7)), 5, []⟩, ⟨(some 31), .none, (.bin .mul (.t 30) (.c (.int .i64 256))), 6, []⟩, ⟨(some 32), .none, (.bin .add (.t 29) (.t 31)), 7, []⟩, ⟨(some 33), .none, (.mov (.t 8)), 8, []⟩, ⟨(some 34), .none, (.bin .add (.t 32) (.t 33)), 9, []⟩, ⟨(some 35), .none, (.mov (.t 1)), 10, []⟩, ⟨(some 36), .none, (.bin .rem (.t 34) (.t 35)), 11, []⟩, ⟨(some 4), .none, (.mov (.t 36)), 12, []⟩]) .ret)))))))), [(.t 4)]⟩
theorem k89 : EE.fns 89 = some c89 := by kernel_rfl
def c91 : CF := ⟨58, (.seq (.reg false [⟨(some 2), .none, (.mov (.c (.int .i64 0))), 0, []⟩]) (.seq (.reg false [⟨(some 4), .none, (.mov (.t 0)), 0, []⟩, ⟨(some 5), .none, (.mov (.t 0)), 1, []⟩, ⟨(some 6), .none, (.nilc (.t 5)), 2, []⟩, ⟨(some 7), .none, (.fadr 2 (.t 6)), 3, []⟩, ⟨(some 8), .none, (.load 1 false (.t 7)), 4, []⟩, ⟨(some 9), .none, (.bin .mul (.t 8) (.c (.int .i64 6364136223846793005))), 5, []⟩, ⟨(some 10), .none, (.bin .add (.t 9) (.c (.int .i64 1442695040888963407))), 6, []⟩, ⟨(some 11), .none, (.nilc (.t 4)), 7, []⟩, ⟨(some 12), .none, (.fadr 2 (.t 11)), 8, []⟩, ⟨.none, .none, (.store 1 (.t 12) (.t 10)), 9, []⟩]) (.seq (.reg true [⟨(some 13), .none, (.mov (.t 0)), 0, []⟩, ⟨(some 14), .none, (.nilc (.t 13)), 1, [0]⟩, ⟨(some 15), .none, (.fadr 2 (.t 14)), 2, [1, 0]⟩, ⟨(some 16), .none, (.load 1 false (.t 15)), 3, [2, 1, 0]⟩, ⟨(some 17), .none, (.bin .shr (.t 16) (.c (.int .u64 33))), 4, [3, 2, 1, 0]⟩, ⟨(some 18), .none, (.mov (.t 0)), 5, []⟩, ⟨(some 19), .none, (.nilc (.t 18)), 6, [5]⟩, ⟨(some 20), .none, (.fadr 2 (.t 19)), 7, [6, 5]⟩, ⟨(some 21), .none, (.load 1 false (.t 20)), 8, [7, 6, 5]⟩, ⟨(some 22), .none, (.bin .shr (.t 21) (.c (.int .u64 45))), 9, [8, 7, 6, 5]⟩, ⟨(some 23), .none, (.bin .xor (.t 17) (.t 22)), 10, [4, 3, 2, 1, 0, 9, 8, 7, 6, 5]⟩, ⟨(some 24), .none, (.bin .and (.t 23) (.c (.int .i64 255))), 11, [10, 4, 3, 2, 1, 0, 9, 8, 7, 6, 5]⟩, ⟨(some 3), .none, (.mov (.t 24)), 12, [11, 10, 4, 3, 2, 1, 0, 9, 8, 7, 6, 5]⟩]) (.seq (.seq (.reg true [⟨(some 25), .none, (.mov (.t 0)), 0, []⟩, ⟨(some 26), .none, (.nilc (.t 25)), 1, [0]⟩, ⟨(some 27), .none, (.fadr 1 (.t 26)), 2, [1, 0]⟩, ⟨(some 28), .none, (.load 1 false (.t 27)), 3, [2, 1, 0]⟩, ⟨(some 29), .none, (.mov (.t 0)), 4, []⟩, ⟨(some 30), .none, (.nilc (.t 29)), 5, [4]⟩, ⟨(some 31), .none, (.fadr 0 (.t 30)), 6, [5, 4]⟩, ⟨(some 32), .none, (.load 1 false (.t 31)), 7, [6, 5, 4]⟩, ⟨(some 33), .none, (.lenS (.t 32)), 8, [7, 6, 5, 4]⟩, ⟨(some 34), .none, (.bin .lss (.t 28) (.t 33)), 9, [3, 2, 1, 0, 8, 7, 6, 5, 4]⟩]) (.cond (.t 34) (.seq (.reg true [⟨(some 35), .none, (.mov (.t 3)), 0, []⟩, ⟨(some 36), .none, (.mov (.t 0)), 1, []⟩, ⟨(some 37), .none, (.nilc (.t 36)), 2, [1]⟩, ⟨(some 38), .none, (.fadr 0 (.t 37)), 3, [2, 1]⟩, ⟨(some 39), .none, (.load 1 false (.t 38)), 4, [3, 2, 1]⟩, ⟨(some 40), .none, (.mov (.t 0)), 5, []⟩, ⟨(some 41), .none, (.nilc (.t 40)), 6, [5]⟩, ⟨(some 42), .none, (.fadr 1 (.t 41)), 7, [6, 5]⟩, ⟨(some 43), .none, (.load 1 false (.t 42)), 8, [7, 6, 5]⟩, ⟨(some 44), .none, (.iadr 1 (.t 39) (.t 43)), 9, [4, 3, 2, 1, 8, 7, 6, 5]⟩, ⟨(some 45), .none, (.load 1 false (.t 44)), 10, [9, 4, 3, 2, 1, 8, 7, 6, 5]⟩, ⟨(some 46), .none, (.toInt .i64 (.t 45)), 11, [10, 9, 4, 3, 2, 1, 8, 7, 6, 5]⟩, ⟨(some 47), .none, (.bin .add (.t 35) (.t 46)), 12, [0, 11, 10, 9, 4, 3, 2, 1, 8, 7, 6, 5]⟩, ⟨(some 48), .none, (.bin .and (.t 47) (.c (.int .i64 255))), 13, [12, 0, 11, 10, 9, 4, 3, 2, 1, 8, 7, 6, 5]⟩, ⟨(some 3), .none, (.mov (.t 48)), 14, [13, 12, 0, 11, 10, 9, 4, 3, 2, 1, 8, 7, 6, 5]⟩]) (.reg false [⟨(some 49), .none, (.mov (.t 0)), 0, []⟩, ⟨(some 50), .none, (.mov (.t 0)), 1, []⟩, ⟨(some 51), .none, (.nilc (.t 50)), 2, []⟩, ⟨(some 52), .none, (.fadr 1 (.t 51)), 3, []⟩, ⟨(some 53), .none, (.load 1 false (.t 52)), 4, []⟩, ⟨(some 54), .none, (.bin .add (.t 53) (.c (.int .i64 1))), 5, []⟩, ⟨(some 55), .none, (.nilc (.t 49)), 6, []⟩, ⟨(some 56), .none, (.fadr 1 (.t 55)), 7, []⟩, ⟨.none, .none, (.store 1 (.t 56) (.t 54)), 8, []⟩])) .skip)) (.seq (.reg false [⟨(some 57), .none, (.mov (.t 3)), 0, []⟩, ⟨(some 2), .none, (.mov (.t 57)), 1, []⟩]) .ret))))), [(.t 2)]⟩
theorem k91 : EE.fns 91 = some c91 := by kernel_rfl
end Go.Proofs.Ytjepmnmakemfoaa.Ev
