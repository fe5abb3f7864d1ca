/- Texts of this proof, laid one behind the other: what each shows stands at its head. -/
import Derived.Test.YtglboiahgpfjdaaGreatB3
import Derived.Test.YtglboiahgpfjdaaGreatB4
/- A row of tasks cut in two: what holds where the front ends, and what is left from there. -/
namespace Go.Proofs.YtglboiahgpfjdaaGreat.Ev
set_option linter.all false
open Go

section
variable {E : Env} {m : Md}
variable {s s1 s2 : St} {Q : Ex → St → Prop} {L L1 L2 : List Tk}
end
attribute [go_sem] List.drop_nil List.take_nil
end Go.Proofs.YtglboiahgpfjdaaGreat.Ev

/- The flat parts of a world: numbers in their ranges, rests, proofs of freshness. -/
namespace Go.Proofs.YtglboiahgpfjdaaGreat.Ev
set_option linter.all false
open Go
set_option maxRecDepth 4000

abbrev SlI (H : Hp) (v : Value) (l : List Int) : Prop := Sl (En eI) 1 H v l
theorem Sl.int {H : Hp} {v : Value} {l : List Int} (h : SlI H v l) {i : Nat} {a : Int} (hi : l[i]? = some a) : ∃ id p o, H[id]? = some o ∧ o[p]? = some (.int .i64 a) ∧
    ∀ (s : St) (x y : X), exv s.ρ x = some v → exv s.ρ y = some (.int .i64 i) → iadrK s 1 x y = some (.val (.pointer (some ⟨id, p, some o.length⟩)), s) := by
  obtain ⟨id, p, o, ho, hr, hp, hia⟩ := h.elem hi
  unfold En at hr
  exact ⟨id, p, o, ho, by simpa [eI] using getElem?_of_take hr (j := 0) (by omega), hia⟩
def ScalP (E : Env) (f : Nat) (vs : List Value) (H : Hp) (P : Value → Prop) : Prop := ∀ m : Md, Wr m H → Fun E m f vs H fun r H' => P r ∧ H' = H
theorem scalP_ok {E : Env} {f : Nat} {cf : CF} {vs : List Value} {H : Hp} {P : Value → Prop} (ht : E.tr f = true) (hp : E.prim f = none) (hf : E.fns f = some cf) (hl : vs.length ≤ cf.nt)
    (h : ∀ m : Md, Wr m H → go E m [.c cf.body] { ρ := ini vs, gn := 0, H := H } (Post cf.res true H fun r H' => P r ∧ H' = H)) : ScalP E f vs H P := fun m hw => fun_ok ht hp hf hl (h _ hw)
def FreshS {α : Type} (enc : α → List Value) (esz : Nat) (H : Hp) (v : Value) (H' : Hp) (l : List α) : Prop := H <+: H' ∧ Sl (En enc) esz H' v l ∧ OwnS H.length v
theorem own_ge {N : Nat} {v : Value} (h : OwnS N v) : ∀ j ∈ idsOf v, N ≤ j := fun j hj => by
  rcases h with rfl | ⟨id, e, len, cap, rfl, hid⟩
  · simp [idsOf] at hj
  · simp [idsOf] at hj; omega
theorem OwnS.mono {N N' : Nat} {v : Value} (h : OwnS N v) (hn : N' ≤ N) : OwnS N' v := by
  rcases h with h | ⟨id, e, ln, cap, h, hid⟩
  · exact .inl h
  · exact .inr ⟨id, e, ln, cap, h, by omega⟩
def inB (a b c : Int) : Bool := decide (a ≥ b) && decide (a ≤ c)
theorem inB_t {a b c : Int} : inB a b c = true ↔ b ≤ a ∧ a ≤ c := by simp [inB]
theorem f48 {H : Hp} {a b c : Int} : Scal EE 48 [.int .i64 a, .int .i64 b, .int .i64 c] H (.bool (inB a b c)) := by
  refine scal_ok rfl rfl k48 (by simp [c48]) rfl fun m hw => ?_
  unfold inB
  simp only [go_sem, ↓reduceIte, Nat.reduceEqDiff, reduceCtorEq, Nat.reduceAdd, Nat.reduceLeDiff, Nat.reduceMul, c48]
  refine brT.intro (fun q => ?_) (fun q => ?_) <;> simp only [go_sem, ↓reduceIte, Nat.reduceEqDiff, reduceCtorEq, Nat.reduceAdd, Nat.reduceLeDiff, Nat.reduceMul, q]
theorem c48' {m : Md} {draw : Bool} {s : St} {d : Option Nat} {ts : List Tk} {Q : Ex → St → Prop} {a b c : Int} (hw : Wr m s.H) :
    callT EE m draw 48 (some [.int .i64 a, .int .i64 b, .int .i64 c]) s d ts Q = go EE m ts { s with ρ := upd s.ρ d (.val (.bool (inB a b c))) } Q := callT_at f48 rfl hw
theorem f82 {H : Hp} {a b c : Int} : Scal EE 82 [.int .i64 a, .int .i64 b, .int .i64 c] H (.bool (inB a b c)) := by
  refine scal_ok rfl rfl k82 (by simp [c82]) rfl fun m hw => ?_
  unfold inB
  simp only [go_sem, ↓reduceIte, Nat.reduceEqDiff, reduceCtorEq, Nat.reduceAdd, Nat.reduceLeDiff, Nat.reduceMul, c82]
  refine brT.intro (fun q => ?_) (fun q => ?_) <;> simp only [go_sem, ↓reduceIte, Nat.reduceEqDiff, reduceCtorEq, Nat.reduceAdd, Nat.reduceLeDiff, Nat.reduceMul, q]
theorem c82' {m : Md} {draw : Bool} {s : St} {d : Option Nat} {ts : List Tk} {Q : Ex → St → Prop} {a b c : Int} (hw : Wr m s.H) :
    callT EE m draw 82 (some [.int .i64 a, .int .i64 b, .int .i64 c]) s d ts Q = go EE m ts { s with ρ := upd s.ρ d (.val (.bool (inB a b c))) } Q := callT_at f82 rfl hw
theorem f81 {H : Hp} {a : Int} : Scal EE 81 [.int .i64 a] H (.bool (inB a (0) 100000)) := by
  refine scal_ok rfl rfl k81 (by simp [c81]) rfl fun m hw => ?_
  simp only [go_sem, ↓reduceIte, Nat.reduceEqDiff, reduceCtorEq, Nat.reduceAdd, Nat.reduceLeDiff, Nat.reduceMul, c81, c82', hw]
theorem c81' {m : Md} {draw : Bool} {s : St} {d : Option Nat} {ts : List Tk} {Q : Ex → St → Prop} {a : Int} (hw : Wr m s.H) :
    callT EE m draw 81 (some [.int .i64 a]) s d ts Q = go EE m ts { s with ρ := upd s.ρ d (.val (.bool (inB a (0) 100000))) } Q := callT_at f81 rfl hw
theorem f109 {H : Hp} {a : Int} : Scal EE 109 [.int .i64 a] H (.bool (inB a (0) 1000000)) := by
  refine scal_ok rfl rfl k109 (by simp [c109]) rfl fun m hw => ?_
  simp only [go_sem, ↓reduceIte, Nat.reduceEqDiff, reduceCtorEq, Nat.reduceAdd, Nat.reduceLeDiff, Nat.reduceMul, c109, c82', hw]
theorem c109' {m : Md} {draw : Bool} {s : St} {d : Option Nat} {ts : List Tk} {Q : Ex → St → Prop} {a : Int} (hw : Wr m s.H) :
    callT EE m draw 109 (some [.int .i64 a]) s d ts Q = go EE m ts { s with ρ := upd s.ρ d (.val (.bool (inB a (0) 1000000))) } Q := callT_at f109 rfl hw
theorem f110 {H : Hp} {a : Int} : Scal EE 110 [.int .i64 a] H (.bool (inB a (1) 1000000)) := by
  refine scal_ok rfl rfl k110 (by simp [c110]) rfl fun m hw => ?_
  simp only [go_sem, ↓reduceIte, Nat.reduceEqDiff, reduceCtorEq, Nat.reduceAdd, Nat.reduceLeDiff, Nat.reduceMul, c110, c82', hw]
theorem c110' {m : Md} {draw : Bool} {s : St} {d : Option Nat} {ts : List Tk} {Q : Ex → St → Prop} {a : Int} (hw : Wr m s.H) :
    callT EE m draw 110 (some [.int .i64 a]) s d ts Q = go EE m ts { s with ρ := upd s.ρ d (.val (.bool (inB a (1) 1000000))) } Q := callT_at f110 rfl hw
theorem f111 {H : Hp} {a : Int} : Scal EE 111 [.int .i64 a] H (.bool (inB a (0) 5)) := by
  refine scal_ok rfl rfl k111 (by simp [c111]) rfl fun m hw => ?_
  simp only [go_sem, ↓reduceIte, Nat.reduceEqDiff, reduceCtorEq, Nat.reduceAdd, Nat.reduceLeDiff, Nat.reduceMul, c111, c82', hw]
theorem c111' {m : Md} {draw : Bool} {s : St} {d : Option Nat} {ts : List Tk} {Q : Ex → St → Prop} {a : Int} (hw : Wr m s.H) :
    callT EE m draw 111 (some [.int .i64 a]) s d ts Q = go EE m ts { s with ρ := upd s.ρ d (.val (.bool (inB a (0) 5))) } Q := callT_at f111 rfl hw
theorem f116 {H : Hp} {a : Int} : Scal EE 116 [.int .i64 a] H (.bool (inB a (0) 2)) := by
  refine scal_ok rfl rfl k116 (by simp [c116]) rfl fun m hw => ?_
  simp only [go_sem, ↓reduceIte, Nat.reduceEqDiff, reduceCtorEq, Nat.reduceAdd, Nat.reduceLeDiff, Nat.reduceMul, c116, c82', hw]
theorem c116' {m : Md} {draw : Bool} {s : St} {d : Option Nat} {ts : List Tk} {Q : Ex → St → Prop} {a : Int} (hw : Wr m s.H) :
    callT EE m draw 116 (some [.int .i64 a]) s d ts Q = go EE m ts { s with ρ := upd s.ρ d (.val (.bool (inB a (0) 2))) } Q := callT_at f116 rfl hw
theorem f118 {H : Hp} {a : Int} : Scal EE 118 [.int .i64 a] H (.bool (inB a (0) 2)) := by
  refine scal_ok rfl rfl k118 (by simp [c118]) rfl fun m hw => ?_
  simp only [go_sem, ↓reduceIte, Nat.reduceEqDiff, reduceCtorEq, Nat.reduceAdd, Nat.reduceLeDiff, Nat.reduceMul, c118, c82', hw]
theorem c118' {m : Md} {draw : Bool} {s : St} {d : Option Nat} {ts : List Tk} {Q : Ex → St → Prop} {a : Int} (hw : Wr m s.H) :
    callT EE m draw 118 (some [.int .i64 a]) s d ts Q = go EE m ts { s with ρ := upd s.ρ d (.val (.bool (inB a (0) 2))) } Q := callT_at f118 rfl hw
theorem f61 {H : Hp} {a : Int} : Scal EE 61 [.int .i64 a] H (.bool (inB a 0 5)) := by
  refine scal_ok rfl rfl k61 (by simp [c61]) rfl fun m hw => ?_
  simp only [go_sem, ↓reduceIte, Nat.reduceEqDiff, reduceCtorEq, Nat.reduceAdd, Nat.reduceLeDiff, Nat.reduceMul, c61]
  cases q : decide (a ≥ 0) <;> simp only [go_sem, ↓reduceIte, Nat.reduceEqDiff, reduceCtorEq, Nat.reduceAdd, Nat.reduceLeDiff, Nat.reduceMul, q]
  · rw [show inB a 0 5 = false by unfold inB; rw [q]; rfl]
  · rw [show inB a 0 5 = decide (a < 6) by unfold inB; rw [q, Bool.true_and]; exact decide_eq_decide.2 (by omega)]
theorem c61' {m : Md} {draw : Bool} {s : St} {d : Option Nat} {ts : List Tk} {Q : Ex → St → Prop} {a : Int} (hw : Wr m s.H) :
    callT EE m draw 61 (some [.int .i64 a]) s d ts Q = go EE m ts { s with ρ := upd s.ρ d (.val (.bool (inB a 0 5))) } Q := callT_at f61 rfl hw
/-- A service, or a centre far away. -/
def isF (a : Int) : Bool := inB a 0 2 || inB a 10 12
theorem f100 {H : Hp} {a : Int} : Scal EE 100 [.int .i64 a] H (.bool (isF a)) := by
  refine scal_ok rfl rfl k100 (by simp [c100]) rfl fun m hw => ?_
  simp only [go_sem, ↓reduceIte, Nat.reduceEqDiff, reduceCtorEq, Nat.reduceAdd, Nat.reduceLeDiff, Nat.reduceMul, c100, c48', hw]
  cases q : inB a 0 2 <;> simp only [go_sem, ↓reduceIte, Nat.reduceEqDiff, reduceCtorEq, Nat.reduceAdd, Nat.reduceLeDiff, Nat.reduceMul, q, c48', hw]
  · rw [show isF a = inB a 10 12 by unfold isF; rw [q]; rfl]
  · rw [show isF a = true by unfold isF; rw [q]; rfl]
theorem c100' {m : Md} {draw : Bool} {s : St} {d : Option Nat} {ts : List Tk} {Q : Ex → St → Prop} {a : Int} (hw : Wr m s.H) :
    callT EE m draw 100 (some [.int .i64 a]) s d ts Q = go EE m ts { s with ρ := upd s.ρ d (.val (.bool (isF a))) } Q := callT_at f100 rfl hw
abbrev Re := Int × Int × Int
def rsOk (x : Re) : Bool := inB x.1 0 7 && (inB x.2.1 0 255 && inB x.2.2 0 100000)
theorem f101 {H : Hp} {x : Int × Int × Int} : Scal EE 101 [.agg #[.int .i64 x.1, .int .i64 x.2.1, .int .i64 x.2.2]] H (.bool (rsOk x)) := by
  refine scal_ok rfl rfl k101 (by simp [c101]) rfl fun m hw => ?_
  simp only [go_sem, ↓reduceIte, Nat.reduceEqDiff, reduceCtorEq, Nat.reduceAdd, Nat.reduceLeDiff, Nat.reduceMul, c101, c48', hw]
  cases q1 : inB x.1 0 7 <;> simp only [go_sem, ↓reduceIte, Nat.reduceEqDiff, reduceCtorEq, Nat.reduceAdd, Nat.reduceLeDiff, Nat.reduceMul, q1, c48', hw]
  · rw [show rsOk x = false by unfold rsOk; rw [q1]; rfl]
  cases q2 : inB x.2.1 0 255 <;> simp only [go_sem, ↓reduceIte, Nat.reduceEqDiff, reduceCtorEq, Nat.reduceAdd, Nat.reduceLeDiff, Nat.reduceMul, q2, c48', hw]
  · rw [show rsOk x = false by unfold rsOk; rw [q1, q2]; rfl]
  · rw [show rsOk x = inB x.2.2 0 100000 by unfold rsOk; rw [q1, q2]; rfl]
theorem f113 {H : Hp} {x : Int × Int × Int} : Scal EE 113 [.agg #[.int .i64 x.1, .int .i64 x.2.1, .int .i64 x.2.2]] H (.bool (rsOk x)) := by
  refine scal_ok rfl rfl k113 (by simp [c113]) rfl fun m hw => ?_
  simp only [go_sem, ↓reduceIte, Nat.reduceEqDiff, reduceCtorEq, Nat.reduceAdd, Nat.reduceLeDiff, Nat.reduceMul, c113, c82', hw]
  cases q1 : inB x.1 0 7 <;> simp only [go_sem, ↓reduceIte, Nat.reduceEqDiff, reduceCtorEq, Nat.reduceAdd, Nat.reduceLeDiff, Nat.reduceMul, q1, c82', hw]
  · rw [show rsOk x = false by unfold rsOk; rw [q1]; rfl]
  cases q2 : inB x.2.1 0 255 <;> simp only [go_sem, ↓reduceIte, Nat.reduceEqDiff, reduceCtorEq, Nat.reduceAdd, Nat.reduceLeDiff, Nat.reduceMul, q2, c81', hw]
  · rw [show rsOk x = false by unfold rsOk; rw [q1, q2]; rfl]
  · rw [show rsOk x = inB x.2.2 0 100000 by unfold rsOk; rw [q1, q2]; rfl]
def auOk (x : Re) : Bool := inB x.1 0 5 && (inB x.2.1 0 100000 && inB x.2.2 0 1000000)
theorem f102 {H : Hp} {x : Int × Int × Int} : Scal EE 102 [.agg #[.int .i64 x.1, .int .i64 x.2.1, .int .i64 x.2.2]] H (.bool (auOk x)) := by
  refine scal_ok rfl rfl k102 (by simp [c102]) rfl fun m hw => ?_
  simp only [go_sem, ↓reduceIte, Nat.reduceEqDiff, reduceCtorEq, Nat.reduceAdd, Nat.reduceLeDiff, Nat.reduceMul, c102, c61', hw]
  cases q1 : inB x.1 0 5 <;> simp only [go_sem, ↓reduceIte, Nat.reduceEqDiff, reduceCtorEq, Nat.reduceAdd, Nat.reduceLeDiff, Nat.reduceMul, q1, c48', hw]
  · rw [show auOk x = false by unfold auOk; rw [q1]; rfl]
  cases q2 : inB x.2.1 0 100000 <;> simp only [go_sem, ↓reduceIte, Nat.reduceEqDiff, reduceCtorEq, Nat.reduceAdd, Nat.reduceLeDiff, Nat.reduceMul, q2, c48', hw]
  · rw [show auOk x = false by unfold auOk; rw [q1, q2]; rfl]
  · rw [show auOk x = inB x.2.2 0 1000000 by unfold auOk; rw [q1, q2]; rfl]
theorem f114 {H : Hp} {x : Int × Int × Int} : Scal EE 114 [.agg #[.int .i64 x.1, .int .i64 x.2.1, .int .i64 x.2.2]] H (.bool (auOk x)) := by
  refine scal_ok rfl rfl k114 (by simp [c114]) rfl fun m hw => ?_
  simp only [go_sem, ↓reduceIte, Nat.reduceEqDiff, reduceCtorEq, Nat.reduceAdd, Nat.reduceLeDiff, Nat.reduceMul, c114, c111', hw]
  cases q1 : inB x.1 0 5 <;> simp only [go_sem, ↓reduceIte, Nat.reduceEqDiff, reduceCtorEq, Nat.reduceAdd, Nat.reduceLeDiff, Nat.reduceMul, q1, c81', hw]
  · rw [show auOk x = false by unfold auOk; rw [q1]; rfl]
  cases q2 : inB x.2.1 0 100000 <;> simp only [go_sem, ↓reduceIte, Nat.reduceEqDiff, reduceCtorEq, Nat.reduceAdd, Nat.reduceLeDiff, Nat.reduceMul, q2, c82', hw]
  · rw [show auOk x = false by unfold auOk; rw [q1, q2]; rfl]
  · rw [show auOk x = inB x.2.2 0 1000000 by unfold auOk; rw [q1, q2]; rfl]
end Go.Proofs.YtglboiahgpfjdaaGreat.Ev

/- A world's services, waits, pairs. -/
namespace Go.Proofs.YtglboiahgpfjdaaGreat.Ev
set_option linter.all false
open Go
set_option maxRecDepth 4000

/-- A number of 64 bits. -/
def I64 (a : Int) : Prop := -9223372036854775808 ≤ a ∧ a < 9223372036854775808
theorem far_wrap {a : Int} (h : I64 a) : inB (IntKind.i64.wrap (a - 10)) 0 2 = inB a 10 12 := by
  by_cases h2 : -9223372036854775808 ≤ a - 10
  · rw [wrap64 _ h2 (by have := h.2; omega), Bool.eq_iff_iff, inB_t, inB_t]
    omega
  · have e : IntKind.i64.wrap (a - 10) = a - 10 + 18446744073709551616 := by
      have h1 := h.1
      simp [IntKind.wrap, IntKind.bits, IntKind.signed]
      omega
    have h1 := h.1
    rw [e, Bool.eq_iff_iff, inB_t, inB_t]
    omega
theorem f112 {H : Hp} {a : Int} (h : I64 a) : Scal EE 112 [.int .i64 a] H (.bool (isF a)) := by
  refine scal_ok rfl rfl k112 (by simp [c112]) rfl fun m hw => ?_
  simp only [go_sem, ↓reduceIte, Nat.reduceEqDiff, reduceCtorEq, Nat.reduceAdd, Nat.reduceLeDiff, Nat.reduceMul, c112, c116', hw]
  cases q : inB a 0 2 <;> simp only [go_sem, ↓reduceIte, Nat.reduceEqDiff, reduceCtorEq, Nat.reduceAdd, Nat.reduceLeDiff, Nat.reduceMul, q, c118', hw]
  · rw [far_wrap h, show isF a = inB a 10 12 by unfold isF; rw [q]; rfl]
  · rw [show isF a = true by unfold isF; rw [q]; rfl]
end Go.Proofs.YtglboiahgpfjdaaGreat.Ev

/- Pairs, proofs of freshness, texts: is one among others? -/
namespace Go.Proofs.YtglboiahgpfjdaaGreat.Ev
set_option linter.all false
open Go
set_option maxRecDepth 4000

/-- The first that has it. -/
def IdxR {α : Type} (l : List α) (p : α → Bool) (n : Int) : Prop := (n = -1 ∧ ∀ a ∈ l, p a = false) ∨ ∃ i : Nat, ∃ h : i < l.length, n = i ∧ p l[i] = true ∧ ∀ a ∈ l.take i, p a = false
theorem IdxR.any {α : Type} {l : List α} {p : α → Bool} {n : Int} (h : IdxR l p n) : decide (n ≥ 0) = l.any p := by
  rcases h with ⟨e, h⟩ | ⟨i, hi, e, h, _⟩
  · rw [e, show l.any p = false from List.any_eq_false.2 fun a ha => by rw [h a ha]; simp]
    rfl
  · rw [e, show l.any p = true from List.any_eq_true.2 ⟨_, List.getElem_mem hi, h⟩]
    exact decide_eq_true (by omega)
theorem none_succ {α : Type} {l : List α} {p : α → Bool} {i : Nat} (hi : i < l.length) (h : ∀ a ∈ l.take i, p a = false) (h2 : p l[i] = false) : ∀ a ∈ l.take (i + 1), p a = false := fun a ha => by
  rw [List.take_succ_eq_append_getElem hi, List.mem_append, List.mem_singleton] at ha
  rcases ha with ha | ha
  · exact h a ha
  · subst ha; exact h2
abbrev Pr := Int × Int
def ePr (x : Pr) : List Value := [.int .i64 x.1, .int .i64 x.2]
abbrev SlP (H : Hp) (v : Value) (l : List Pr) : Prop := Sl (En ePr) 2 H v l
def eqP (x y : Pr) : Bool := decide (x.1 = y.1) && decide (x.2 = y.2)
theorem eqP_t {x y : Pr} : eqP x y = true ↔ x = y := by
  obtain ⟨a, b⟩ := x; obtain ⟨c, d⟩ := y
  simp [eqP]
theorem f139 {H : Hp} {v : Value} {l : List Pr} {x : Pr} (hl : SlP H v l) : Scal EE 139 [v, .agg #[.int .i64 x.1, .int .i64 x.2]] H (.bool (l.any (eqP · x))) := by
  refine scal_ok rfl rfl k139 (by simp [c139]) rfl fun m hw => ?_
  have hroom := hl.room
  simp only [go_sem, ↓reduceIte, Nat.reduceEqDiff, reduceCtorEq, Nat.reduceAdd, Nat.reduceLeDiff, Nat.reduceMul, c139]
  refine go_for l.length (fun i s => s.H = H ∧ s.ρ 0 = .val v ∧ (∃ g, s.ρ 3 = .bx g [.int .i64 x.1, .int .i64 x.2]) ∧ s.ρ 5 = .val (.int .i64 i) ∧ ∀ a ∈ l.take i, eqP a x = false) (fun s => s.H = H ∧ ∀ a ∈ l, eqP a x = false) (by simp [upd, ini]) ?_ ?_
  · rintro i s hi ⟨hH, k0, ⟨g, k3⟩, k5, hn⟩
    simp only [go_sem, ↓reduceIte, Nat.reduceEqDiff, reduceCtorEq, Nat.reduceAdd, Nat.reduceLeDiff, Nat.reduceMul, k0, k3, k5, hl.len]
    cases c1 : decide ((i : Int) < (l.length : Int)) <;> simp only [go_sem, ↓reduceIte, Nat.reduceEqDiff, reduceCtorEq, Nat.reduceAdd, Nat.reduceLeDiff, Nat.reduceMul, k0, k3, k5, c1]
    · have : i = l.length := by have := of_decide_eq_false c1; omega
      subst this
      rw [List.take_length] at hn
      exact ⟨hH, hn⟩
    have hil : i < l.length := by have := of_decide_eq_true c1; omega
    have w1 := wrap64 ((i : Int) + 1) (by omega) (by omega)
    obtain ⟨id, p, o, ho, hr, hp, hia⟩ := hl.elem (List.getElem?_eq_getElem hil)
    have hr : (o.drop p).take 2 = ePr l[i] := hr
    unfold ePr at hr
    have he : (decide (l[i].1 = x.1) && decide (l[i].2 = x.2)) = eqP l[i] x := rfl
    refine go_draw ?_
    simp only [go_sem, ↓reduceIte, Nat.reduceEqDiff, reduceCtorEq, Nat.reduceAdd, Nat.reduceLeDiff, Nat.reduceMul, k0, k3, k5, hia, hH, ho, hr, hp, he]
    refine ⟨by rfl, ?_⟩
    cases q2 : eqP l[i] x <;> simp only [go_sem, ↓reduceIte, Nat.reduceEqDiff, reduceCtorEq, Nat.reduceAdd, Nat.reduceLeDiff, Nat.reduceMul, k0, k3, k5, q2, w1]
    · exact ⟨hil, ⟨_, rfl⟩, by simp, none_succ (p := fun a => eqP a x) hil hn q2⟩
    · rw [show l.any (eqP · x) = true from List.any_eq_true.2 ⟨_, List.getElem_mem hil, q2⟩]
  · rintro s ⟨hH, hn⟩
    simp only [go_sem, ↓reduceIte, Nat.reduceEqDiff, reduceCtorEq, Nat.reduceAdd, Nat.reduceLeDiff, Nat.reduceMul, hH]
    rw [show l.any (eqP · x) = false from List.any_eq_false.2 fun a ha => by rw [hn a ha]; simp]
theorem f162 {H : Hp} {v : Value} {l : List Pr} {x : Pr} (hl : SlP H v l) : ScalP EE 162 [v, .agg #[.int .i64 x.1, .int .i64 x.2]] H fun r => ∃ n : Int, r = .int .i64 n ∧ IdxR l (eqP x ·) n := by
  refine scalP_ok rfl rfl k162 (by simp [c162]) fun m hw => ?_
  have hroom := hl.room
  simp only [go_sem, ↓reduceIte, Nat.reduceEqDiff, reduceCtorEq, Nat.reduceAdd, Nat.reduceLeDiff, Nat.reduceMul, c162, hl.len]
  refine go_for l.length (fun i s => s.H = H ∧ s.ρ 0 = .val v ∧ (∃ g, s.ρ 3 = .bx g [.int .i64 x.1, .int .i64 x.2]) ∧ s.ρ 7 = .val (.int .i64 l.length) ∧ s.ρ 8 = .val (.int .i64 i) ∧ ∀ a ∈ l.take i, eqP x a = false) (fun s => s.H = H ∧ ∀ a ∈ l, eqP x a = false) (by simp [upd, ini]) ?_ ?_
  · rintro i s hi ⟨hH, k0, ⟨g, k3⟩, k7, k8, hn⟩
    simp only [go_sem, ↓reduceIte, Nat.reduceEqDiff, reduceCtorEq, Nat.reduceAdd, Nat.reduceLeDiff, Nat.reduceMul, k0, k3, k7, k8]
    cases c1 : decide ((i : Int) < (l.length : Int)) <;> simp only [go_sem, ↓reduceIte, Nat.reduceEqDiff, reduceCtorEq, Nat.reduceAdd, Nat.reduceLeDiff, Nat.reduceMul, k0, k3, k7, k8, c1]
    · have : i = l.length := by have := of_decide_eq_false c1; omega
      subst this
      rw [List.take_length] at hn
      exact ⟨hH, hn⟩
    have hil : i < l.length := by have := of_decide_eq_true c1; omega
    have w1 := wrap64 ((i : Int) + 1) (by omega) (by omega)
    obtain ⟨id, p, o, ho, hr, hp, hia⟩ := hl.elem (List.getElem?_eq_getElem hil)
    have hr : (o.drop p).take 2 = ePr l[i] := hr
    unfold ePr at hr
    have he : (decide (x.1 = l[i].1) && decide (x.2 = l[i].2)) = eqP x l[i] := rfl
    refine go_draw ?_
    simp only [go_sem, ↓reduceIte, Nat.reduceEqDiff, reduceCtorEq, Nat.reduceAdd, Nat.reduceLeDiff, Nat.reduceMul, k0, k3, k7, k8, hia, hH, ho, hr, hp, he]
    refine ⟨by rfl, ?_⟩
    cases q2 : eqP x l[i] <;> simp only [go_sem, ↓reduceIte, Nat.reduceEqDiff, reduceCtorEq, Nat.reduceAdd, Nat.reduceLeDiff, Nat.reduceMul, k0, k3, k7, k8, q2, w1]
    · exact ⟨hil, ⟨_, rfl⟩, by simp, none_succ (p := fun a => eqP x a) hil hn q2⟩
    · exact ⟨_, rfl, .inr ⟨i, hil, rfl, q2, hn⟩⟩
  · rintro s ⟨hH, hn⟩
    simp only [go_sem, ↓reduceIte, Nat.reduceEqDiff, reduceCtorEq, Nat.reduceAdd, Nat.reduceLeDiff, Nat.reduceMul, hH]
    exact ⟨-1, rfl, .inl ⟨rfl, hn⟩⟩
theorem f143 {H : Hp} {v : Value} {l : List Pr} {x : Pr} (hl : SlP H v l) : Scal EE 143 [v, .agg #[.int .i64 x.1, .int .i64 x.2]] H (.bool (l.any (eqP x ·))) := by
  refine scal_ok rfl rfl k143 (by simp [c143]) rfl fun m hw => ?_
  simp only [go_sem, ↓reduceIte, Nat.reduceEqDiff, reduceCtorEq, Nat.reduceAdd, Nat.reduceLeDiff, Nat.reduceMul, c143]
  refine callT_to (fun m' h => f162 hl m' h) rfl hw fun r H' ⟨⟨n, e, hn⟩, e2⟩ => ?_
  subst e; subst e2
  simp only [go_sem, ↓reduceIte, Nat.reduceEqDiff, reduceCtorEq, Nat.reduceAdd, Nat.reduceLeDiff, Nat.reduceMul, hn.any]
def eRe (x : Re) : List Value := [.int .i64 x.1, .int .i64 x.2.1, .int .i64 x.2.2]
abbrev SlAu (H : Hp) (v : Value) (l : List Re) : Prop := Sl (En eRe) 3 H v l
def eqRe (x y : Re) : Bool := decide (x.1 = y.1) && (decide (x.2.1 = y.2.1) && decide (x.2.2 = y.2.2))
theorem eqRe_t {x y : Re} : eqRe x y = true ↔ x = y := by
  obtain ⟨a, b, e⟩ := x; obtain ⟨c, d, f⟩ := y
  simp [eqRe]
theorem f103 {H : Hp} {v : Value} {l : List Re} {x : Re} (hl : SlAu H v l) : Scal EE 103 [v, .agg #[.int .i64 x.1, .int .i64 x.2.1, .int .i64 x.2.2]] H (.bool (l.any (eqRe · x))) := by
  refine scal_ok rfl rfl k103 (by simp [c103]) rfl fun m hw => ?_
  have hroom := hl.room
  simp only [go_sem, ↓reduceIte, Nat.reduceEqDiff, reduceCtorEq, Nat.reduceAdd, Nat.reduceLeDiff, Nat.reduceMul, c103]
  refine go_for l.length (fun i s => s.H = H ∧ s.ρ 0 = .val v ∧ (∃ g, s.ρ 3 = .bx g [.int .i64 x.1, .int .i64 x.2.1, .int .i64 x.2.2]) ∧ s.ρ 5 = .val (.int .i64 i) ∧ ∀ a ∈ l.take i, eqRe a x = false) (fun s => s.H = H ∧ ∀ a ∈ l, eqRe a x = false) (by simp [upd, ini]) ?_ ?_
  · rintro i s hi ⟨hH, k0, ⟨g, k3⟩, k5, hn⟩
    simp only [go_sem, ↓reduceIte, Nat.reduceEqDiff, reduceCtorEq, Nat.reduceAdd, Nat.reduceLeDiff, Nat.reduceMul, k0, k3, k5, hl.len]
    cases c1 : decide ((i : Int) < (l.length : Int)) <;> simp only [go_sem, ↓reduceIte, Nat.reduceEqDiff, reduceCtorEq, Nat.reduceAdd, Nat.reduceLeDiff, Nat.reduceMul, k0, k3, k5, c1]
    · have : i = l.length := by have := of_decide_eq_false c1; omega
      subst this
      rw [List.take_length] at hn
      exact ⟨hH, hn⟩
    have hil : i < l.length := by have := of_decide_eq_true c1; omega
    have w1 := wrap64 ((i : Int) + 1) (by omega) (by omega)
    obtain ⟨id, p, o, ho, hr, hp, hia⟩ := hl.elem (List.getElem?_eq_getElem hil)
    have hr : (o.drop p).take 3 = eRe l[i] := hr
    unfold eRe at hr
    have he : (decide (l[i].1 = x.1) && (decide (l[i].2.1 = x.2.1) && decide (l[i].2.2 = x.2.2))) = eqRe l[i] x := rfl
    refine go_draw ?_
    simp only [go_sem, ↓reduceIte, Nat.reduceEqDiff, reduceCtorEq, Nat.reduceAdd, Nat.reduceLeDiff, Nat.reduceMul, k0, k3, k5, hia, hH, ho, hr, hp, he]
    refine ⟨by rfl, ?_⟩
    cases q2 : eqRe l[i] x <;> simp only [go_sem, ↓reduceIte, Nat.reduceEqDiff, reduceCtorEq, Nat.reduceAdd, Nat.reduceLeDiff, Nat.reduceMul, k0, k3, k5, q2, w1]
    · exact ⟨hil, ⟨_, rfl⟩, by simp, none_succ (p := fun a => eqRe a x) hil hn q2⟩
    · rw [show l.any (eqRe · x) = true from List.any_eq_true.2 ⟨_, List.getElem_mem hil, q2⟩]
  · rintro s ⟨hH, hn⟩
    simp only [go_sem, ↓reduceIte, Nat.reduceEqDiff, reduceCtorEq, Nat.reduceAdd, Nat.reduceLeDiff, Nat.reduceMul, hH]
    rw [show l.any (eqRe · x) = false from List.any_eq_false.2 fun a ha => by rw [hn a ha]; simp]
theorem f141 {H : Hp} {v : Value} {l : List Re} {x : Re} (hl : SlAu H v l) : ScalP EE 141 [v, .agg #[.int .i64 x.1, .int .i64 x.2.1, .int .i64 x.2.2]] H fun r => ∃ n : Int, r = .int .i64 n ∧ IdxR l (eqRe x ·) n := by
  refine scalP_ok rfl rfl k141 (by simp [c141]) fun m hw => ?_
  have hroom := hl.room
  simp only [go_sem, ↓reduceIte, Nat.reduceEqDiff, reduceCtorEq, Nat.reduceAdd, Nat.reduceLeDiff, Nat.reduceMul, c141, hl.len]
  refine go_for l.length (fun i s => s.H = H ∧ s.ρ 0 = .val v ∧ (∃ g, s.ρ 3 = .bx g [.int .i64 x.1, .int .i64 x.2.1, .int .i64 x.2.2]) ∧ s.ρ 7 = .val (.int .i64 l.length) ∧ s.ρ 8 = .val (.int .i64 i) ∧ ∀ a ∈ l.take i, eqRe x a = false) (fun s => s.H = H ∧ ∀ a ∈ l, eqRe x a = false) (by simp [upd, ini]) ?_ ?_
  · rintro i s hi ⟨hH, k0, ⟨g, k3⟩, k7, k8, hn⟩
    simp only [go_sem, ↓reduceIte, Nat.reduceEqDiff, reduceCtorEq, Nat.reduceAdd, Nat.reduceLeDiff, Nat.reduceMul, k0, k3, k7, k8]
    cases c1 : decide ((i : Int) < (l.length : Int)) <;> simp only [go_sem, ↓reduceIte, Nat.reduceEqDiff, reduceCtorEq, Nat.reduceAdd, Nat.reduceLeDiff, Nat.reduceMul, k0, k3, k7, k8, c1]
    · have : i = l.length := by have := of_decide_eq_false c1; omega
      subst this
      rw [List.take_length] at hn
      exact ⟨hH, hn⟩
    have hil : i < l.length := by have := of_decide_eq_true c1; omega
    have w1 := wrap64 ((i : Int) + 1) (by omega) (by omega)
    obtain ⟨id, p, o, ho, hr, hp, hia⟩ := hl.elem (List.getElem?_eq_getElem hil)
    have hr : (o.drop p).take 3 = eRe l[i] := hr
    unfold eRe at hr
    have he : (decide (x.1 = l[i].1) && (decide (x.2.1 = l[i].2.1) && decide (x.2.2 = l[i].2.2))) = eqRe x l[i] := rfl
    refine go_draw ?_
    simp only [go_sem, ↓reduceIte, Nat.reduceEqDiff, reduceCtorEq, Nat.reduceAdd, Nat.reduceLeDiff, Nat.reduceMul, k0, k3, k7, k8, hia, hH, ho, hr, hp, he]
    refine ⟨by rfl, ?_⟩
    cases q2 : eqRe x l[i] <;> simp only [go_sem, ↓reduceIte, Nat.reduceEqDiff, reduceCtorEq, Nat.reduceAdd, Nat.reduceLeDiff, Nat.reduceMul, k0, k3, k7, k8, q2, w1]
    · exact ⟨hil, ⟨_, rfl⟩, by simp, none_succ (p := fun a => eqRe x a) hil hn q2⟩
    · exact ⟨_, rfl, .inr ⟨i, hil, rfl, q2, hn⟩⟩
  · rintro s ⟨hH, hn⟩
    simp only [go_sem, ↓reduceIte, Nat.reduceEqDiff, reduceCtorEq, Nat.reduceAdd, Nat.reduceLeDiff, Nat.reduceMul, hH]
    exact ⟨-1, rfl, .inl ⟨rfl, hn⟩⟩
theorem f115 {H : Hp} {v : Value} {l : List Re} {x : Re} (hl : SlAu H v l) : Scal EE 115 [v, .agg #[.int .i64 x.1, .int .i64 x.2.1, .int .i64 x.2.2]] H (.bool (l.any (eqRe x ·))) := by
  refine scal_ok rfl rfl k115 (by simp [c115]) rfl fun m hw => ?_
  simp only [go_sem, ↓reduceIte, Nat.reduceEqDiff, reduceCtorEq, Nat.reduceAdd, Nat.reduceLeDiff, Nat.reduceMul, c115]
  refine callT_to (fun m' h => f141 hl m' h) rfl hw fun r H' ⟨⟨n, e, hn⟩, e2⟩ => ?_
  subst e; subst e2
  simp only [go_sem, ↓reduceIte, Nat.reduceEqDiff, reduceCtorEq, Nat.reduceAdd, Nat.reduceLeDiff, Nat.reduceMul, hn.any]
end Go.Proofs.YtglboiahgpfjdaaGreat.Ev

/- Rows of numbers in a range. -/
namespace Go.Proofs.YtglboiahgpfjdaaGreat.Ev
set_option linter.all false
open Go
set_option maxRecDepth 4000

/-- So many at most, all below a number. -/
def l5R (l : List Int) (most : Nat) (n : Int) : Bool := l.all (fun a => inB a 0 (n - 1)) && decide (l.length ≤ most)
theorem l5_no {l : List Int} {most : Nat} {n : Int} {i : Nat} (h : i < l.length) (h2 : inB l[i] 0 (n - 1) = false) : l5R l most n = false := by
  unfold l5R
  rw [List.all_eq_false.2 ⟨_, List.getElem_mem h, by simp only [h2]; simp⟩]
  rfl
theorem f62 {H : Hp} {v : Value} {l : List Int} {most : Nat} {n : Int} (hl : SlI H v l) : Scal EE 62 [v, .int .i64 most, .int .i64 n] H (.bool (l5R l most n)) := by
  refine scal_ok rfl rfl k62 (by simp [c62]) rfl fun m hw => ?_
  have hroom := hl.room
  simp only [go_sem, ↓reduceIte, Nat.reduceEqDiff, reduceCtorEq, Nat.reduceAdd, Nat.reduceLeDiff, Nat.reduceMul, c62, hl.len]
  cases q0 : decide ((l.length : Int) > (most : Int)) <;> simp only [go_sem, ↓reduceIte, Nat.reduceEqDiff, reduceCtorEq, Nat.reduceAdd, Nat.reduceLeDiff, Nat.reduceMul, q0]
  rotate_left
  · rw [show l5R l most n = false by unfold l5R; rw [decide_eq_false (show ¬ l.length ≤ most by have := of_decide_eq_true q0; omega), Bool.and_false]]
  have hle : l.length ≤ most := by have := of_decide_eq_false q0; omega
  refine go_for l.length (fun i s => s.H = H ∧ s.ρ 0 = .val v ∧ s.ρ 2 = .val (.int .i64 n) ∧ s.ρ 7 = .val (.int .i64 i) ∧ ∀ a ∈ l.take i, (!inB a 0 (n - 1)) = false)
    (fun s => s.H = H ∧ ∀ a ∈ l, (!inB a 0 (n - 1)) = false) (by simp [upd, ini]) ?_ ?_
  · rintro i s hi ⟨hH, k0, k2, k7, hn⟩
    simp only [go_sem, ↓reduceIte, Nat.reduceEqDiff, reduceCtorEq, Nat.reduceAdd, Nat.reduceLeDiff, Nat.reduceMul, k0, k2, k7, hl.len]
    cases c1 : decide ((i : Int) < (l.length : Int)) <;> simp only [go_sem, ↓reduceIte, Nat.reduceEqDiff, reduceCtorEq, Nat.reduceAdd, Nat.reduceLeDiff, Nat.reduceMul, k0, k2, k7, c1]
    · have : i = l.length := by have := of_decide_eq_false c1; omega
      subst this
      rw [List.take_length] at hn
      exact ⟨hH, hn⟩
    have hil : i < l.length := by have := of_decide_eq_true c1; omega
    have w1 := wrap64 ((i : Int) + 1) (by omega) (by omega)
    obtain ⟨id, q, o, ho, hr, hia⟩ := hl.int (List.getElem?_eq_getElem hil)
    simp only [go_sem, ↓reduceIte, Nat.reduceEqDiff, reduceCtorEq, Nat.reduceAdd, Nat.reduceLeDiff, Nat.reduceMul, k0, k2, k7, hia, hH, ho, hr]
    cases qa : decide (l[i] < 0) <;> simp only [go_sem, ↓reduceIte, Nat.reduceEqDiff, reduceCtorEq, Nat.reduceAdd, Nat.reduceLeDiff, Nat.reduceMul, k0, k2, k7, hia, hH, ho, hr, qa]
    · cases qb : decide (l[i] ≥ n) <;> simp only [go_sem, ↓reduceIte, Nat.reduceEqDiff, reduceCtorEq, Nat.reduceAdd, Nat.reduceLeDiff, Nat.reduceMul, k0, k2, k7, hH, qb, w1]
      · have hin : inB l[i] 0 (n - 1) = true := inB_t.2 (by have := of_decide_eq_false qa; have := of_decide_eq_false qb; omega)
        exact ⟨hil, by simp, none_succ (p := fun a => !inB a 0 (n - 1)) hil hn (by simp only [hin]; rfl)⟩
      · rw [l5_no hil (by
          cases h : inB l[i] 0 (n - 1) with
          | false => rfl
          | true => have := inB_t.1 h; have := of_decide_eq_true qb; omega)]
    · rw [l5_no hil (by
        cases h : inB l[i] 0 (n - 1) with
        | false => rfl
        | true => have := inB_t.1 h; have := of_decide_eq_true qa; omega)]
  · rintro s ⟨hH, hn⟩
    simp only [go_sem, ↓reduceIte, Nat.reduceEqDiff, reduceCtorEq, Nat.reduceAdd, Nat.reduceLeDiff, Nat.reduceMul, hH]
    rw [show l5R l most n = true by unfold l5R; rw [decide_eq_true hle, Bool.and_true]; exact List.all_eq_true.2 fun a ha => by have := hn a ha; simpa using this]
theorem f117 {H : Hp} {v : Value} {l : List Int} {most : Nat} {k : Nat} {caps : Array Value} {p : Int → Bool} (hl : SlI H v l) (hk : ∀ n, Scal EE k ([.int .i64 n] ++ caps.toList) H (.bool (p n))) :
    Scal EE 117 [v, .int .i64 most, .func (.func k) #[] caps] H (.bool (l.all p && decide (l.length ≤ most))) := by
  refine scal_ok rfl rfl k117 (by simp [c117]) rfl fun m hw => ?_
  have hroom := hl.room
  simp only [go_sem, ↓reduceIte, Nat.reduceEqDiff, reduceCtorEq, Nat.reduceAdd, Nat.reduceLeDiff, Nat.reduceMul, c117, hl.len]
  refine go_for l.length (fun i s => s.H = H ∧ s.ρ 0 = .val v ∧ s.ρ 1 = .val (.int .i64 most) ∧ s.ρ 2 = .val (.func (.func k) #[] caps) ∧ s.ρ 9 = .val v ∧ s.ρ 10 = .val (.int .i64 l.length) ∧ s.ρ 11 = .val (.int .i64 i) ∧ (l.take i).all p = true)
    (fun s => s.H = H ∧ s.ρ 0 = .val v ∧ s.ρ 1 = .val (.int .i64 most) ∧ l.all p = true) (by simp [upd, ini]) ?_ ?_
  · rintro i s hi ⟨hH, h0, h1, h2, h9, h10, h11, hn⟩
    simp only [go_sem, ↓reduceIte, Nat.reduceEqDiff, reduceCtorEq, Nat.reduceAdd, Nat.reduceLeDiff, Nat.reduceMul, h0, h1, h2, h9, h10, h11]
    refine brT.intro (fun h3 => ?_) (fun h3 => ?_) <;> simp only [go_sem, ↓reduceIte, Nat.reduceEqDiff, reduceCtorEq, Nat.reduceAdd, Nat.reduceLeDiff, Nat.reduceMul, h0, h1, h2, h9, h10, h11]
    · have h4 : i < l.length := by simpa using h3
      have hgi := List.getElem?_eq_getElem h4
      obtain ⟨id, q, o, ho, hr, hia⟩ := hl.int hgi
      have ak := fun {m draw s d ts Q} => callT_at (m := m) (draw := draw) (s := s) (d := d) (ts := ts) (Q := Q) (hk l[i])
      simp only [List.singleton_append] at ak
      simp only [go_sem, ↓reduceIte, Nat.reduceEqDiff, reduceCtorEq, Nat.reduceAdd, Nat.reduceLeDiff, Nat.reduceMul, h0, h1, h2, h9, h10, h11, hia, hH, ho, hr, ak, hw]
      refine brT.intro (fun h5 => ?_) (fun h5 => ?_) <;> simp only [go_sem, ↓reduceIte, Nat.reduceEqDiff, reduceCtorEq, Nat.reduceAdd, Nat.reduceLeDiff, Nat.reduceMul, h0, h1, h2, h9, h10, h11, wrap64 ((i : Int) + 1) (by omega) (by omega)]
      · refine ⟨h4, by simp, ?_⟩
        rw [List.take_succ_eq_append_getElem h4, List.all_append, hn]
        simp [h5]
      · have : l.all p = false := List.all_eq_false.2 ⟨_, List.getElem_mem h4, by simp [h5]⟩
        simp [this]
    · have h4 : ¬ i < l.length := by simpa using h3
      rw [List.take_of_length_le (by omega)] at hn
      exact ⟨hH, hn⟩
  · rintro s ⟨hH, h0, h1, hn⟩
    simp only [go_sem, ↓reduceIte, Nat.reduceEqDiff, reduceCtorEq, Nat.reduceAdd, Nat.reduceLeDiff, Nat.reduceMul, h0, h1, hH, hl.len, hn]
    simp
/-- A link of two realms; a pair of services. -/
def lkOk (x : Pr) : Bool := inB x.1 0 2 && (inB x.2 0 2 && !decide (x.1 = x.2))
def pxOk (x : Pr) : Bool := inB x.1 0 2 && inB x.2 0 2
theorem f122 {H : Hp} {x : Pr} : Scal EE 122 [.agg #[.int .i64 x.1, .int .i64 x.2]] H (.bool (lkOk x)) := by
  refine scal_ok rfl rfl k122 (by simp [c122]) rfl fun m hw => ?_
  simp only [go_sem, ↓reduceIte, Nat.reduceEqDiff, reduceCtorEq, Nat.reduceAdd, Nat.reduceLeDiff, Nat.reduceMul, c122, c118', hw]
  cases q1 : inB x.1 0 2 <;> simp only [go_sem, ↓reduceIte, Nat.reduceEqDiff, reduceCtorEq, Nat.reduceAdd, Nat.reduceLeDiff, Nat.reduceMul, q1, c118', hw]
  · rw [show lkOk x = false by unfold lkOk; rw [q1]; rfl]
  cases q2 : inB x.2 0 2 <;> simp only [go_sem, ↓reduceIte, Nat.reduceEqDiff, reduceCtorEq, Nat.reduceAdd, Nat.reduceLeDiff, Nat.reduceMul, q2]
  · rw [show lkOk x = false by unfold lkOk; rw [q1, q2]; rfl]
  · rw [show lkOk x = !decide (x.1 = x.2) by unfold lkOk; rw [q1, q2]; rfl]
theorem f123 {H : Hp} {x : Pr} : Scal EE 123 [.agg #[.int .i64 x.1, .int .i64 x.2]] H (.bool (pxOk x)) := by
  refine scal_ok rfl rfl k123 (by simp [c123]) rfl fun m hw => ?_
  simp only [go_sem, ↓reduceIte, Nat.reduceEqDiff, reduceCtorEq, Nat.reduceAdd, Nat.reduceLeDiff, Nat.reduceMul, c123, c116', hw]
  cases q1 : inB x.1 0 2 <;> simp only [go_sem, ↓reduceIte, Nat.reduceEqDiff, reduceCtorEq, Nat.reduceAdd, Nat.reduceLeDiff, Nat.reduceMul, q1, c116', hw]
  · rw [show pxOk x = false by unfold pxOk; rw [q1]; rfl]
  · rw [show pxOk x = inB x.2 0 2 by unfold pxOk; rw [q1]; rfl]
end Go.Proofs.YtglboiahgpfjdaaGreat.Ev

/- Waits; numbers that rise. -/
namespace Go.Proofs.YtglboiahgpfjdaaGreat.Ev
set_option linter.all false
open Go
set_option maxRecDepth 4000

theorem f125 {H : Hp} {v : Value} {l : List Int} (hl : SlI H v l) : ScalP EE 125 [v] H fun r => ∃ b : Bool, r = .bool b ∧ (b = true ↔ ∀ i, (h : i + 1 < l.length) → l[i]'(by omega) < l[i + 1]) := by
  refine scalP_ok rfl rfl k125 (by simp [c125]) fun m hw => ?_
  have hroom := hl.room
  simp only [go_sem, ↓reduceIte, Nat.reduceEqDiff, reduceCtorEq, Nat.reduceAdd, Nat.reduceLeDiff, Nat.reduceMul, c125]
  refine go_for l.length (fun i s => s.H = H ∧ s.ρ 0 = .val v ∧ s.ρ 3 = .val (.int .i64 ((i + 1 : Nat) : Int)) ∧ i ≤ l.length ∧ ∀ k, (h : k + 1 < l.length) → k < i → l[k]'(by omega) < l[k + 1])
    (fun s => s.H = H ∧ ∀ k, (h : k + 1 < l.length) → l[k]'(by omega) < l[k + 1]) (by simp [upd, ini]) ?_ ?_
  · rintro i s hi ⟨hH, k0, k3, hle, hr⟩
    simp only [go_sem, ↓reduceIte, Nat.reduceEqDiff, reduceCtorEq, Nat.reduceAdd, Nat.reduceLeDiff, Nat.reduceMul, k0, k3, hl.len]
    cases c1 : decide (((i + 1 : Nat) : Int) < (l.length : Int)) <;> simp only [go_sem, ↓reduceIte, Nat.reduceEqDiff, reduceCtorEq, Nat.reduceAdd, Nat.reduceLeDiff, Nat.reduceMul, k0, k3, c1]
    · have := of_decide_eq_false c1
      exact ⟨hH, fun k h => hr k h (by omega)⟩
    have hil : i + 1 < l.length := by have := of_decide_eq_true c1; omega
    have w1 : IntKind.i64.wrap (((i + 1 : Nat) : Int) + 1) = ((i + 1 + 1 : Nat) : Int) := by rw [wrap64 _ (by omega) (by omega)]; omega
    have wm : IntKind.i64.wrap (((i + 1 : Nat) : Int) - 1) = (i : Int) := by rw [wrap64 _ (by omega) (by omega)]; omega
    obtain ⟨id, q, o, ho, hg, hia⟩ := hl.int (List.getElem?_eq_getElem hil)
    obtain ⟨id2, q2, o2, ho2, hg2, hia2⟩ := hl.int (List.getElem?_eq_getElem (show i < l.length by omega))
    refine go_draw ?_
    simp only [go_sem, ↓reduceIte, Nat.reduceEqDiff, reduceCtorEq, Nat.reduceAdd, Nat.reduceLeDiff, Nat.reduceMul, k0, k3, hia, hH, ho, hg, wm, hia2, ho2, hg2]
    refine ⟨by rfl, ?_⟩
    cases qc : decide (l[i] ≥ l[i + 1]) <;> simp only [go_sem, ↓reduceIte, Nat.reduceEqDiff, reduceCtorEq, Nat.reduceAdd, Nat.reduceLeDiff, Nat.reduceMul, k0, k3, hH, qc, w1]
    · refine ⟨by omega, by omega, fun k h hk => ?_⟩
      by_cases e : k = i
      · subst e; have := of_decide_eq_false qc; omega
      · exact hr k h (by omega)
    · exact ⟨false, rfl, by simp, fun h => by have := h i hil; have := of_decide_eq_true qc; omega⟩
  · rintro s ⟨hH, hp⟩
    simp only [go_sem, ↓reduceIte, Nat.reduceEqDiff, reduceCtorEq, Nat.reduceAdd, Nat.reduceLeDiff, Nat.reduceMul, hH]
    exact ⟨true, rfl, fun _ => hp, fun _ => rfl⟩

abbrev Wt := Bool × Int × Int × Int
def wtOk (x : Wt) : Bool := if x.1 = true then inB x.2.1 0 1000000 && (inB x.2.2.1 1 1000000 && inB x.2.2.2 0 5) else decide (x.2.1 = 0) && (decide (x.2.2.1 = 0) && decide (x.2.2.2 = 0))
theorem wt_on {x : Wt} (h : x.1 = true) : wtOk x = (inB x.2.1 0 1000000 && (inB x.2.2.1 1 1000000 && inB x.2.2.2 0 5)) := by unfold wtOk; rw [if_pos h]
theorem wt_off {x : Wt} (h : x.1 = false) : wtOk x = (decide (x.2.1 = 0) && (decide (x.2.2.1 = 0) && decide (x.2.2.2 = 0))) := by unfold wtOk; rw [if_neg (by rw [h]; simp)]
theorem f58 {H : Hp} {x : Wt} : Scal EE 58 [.agg #[.bool x.1, .int .i64 x.2.1, .int .i64 x.2.2.1, .int .i64 x.2.2.2]] H (.bool (wtOk x)) := by
  refine scal_ok rfl rfl k58 (by simp [c58]) rfl fun m hw => ?_
  simp only [go_sem, ↓reduceIte, Nat.reduceEqDiff, reduceCtorEq, Nat.reduceAdd, Nat.reduceLeDiff, Nat.reduceMul, c58]
  cases q0 : x.1
  · simp only [go_sem, ↓reduceIte, Nat.reduceEqDiff, reduceCtorEq, Nat.reduceAdd, Nat.reduceLeDiff, Nat.reduceMul, q0, exps, buildK, fillL, zeros_4]
    rw [wt_off q0]
    try simp
  · have ho := wt_on q0
    simp only [go_sem, ↓reduceIte, Nat.reduceEqDiff, reduceCtorEq, Nat.reduceAdd, Nat.reduceLeDiff, Nat.reduceMul, q0, c48', hw]
    cases q1 : inB x.2.1 0 1000000 <;> simp only [go_sem, ↓reduceIte, Nat.reduceEqDiff, reduceCtorEq, Nat.reduceAdd, Nat.reduceLeDiff, Nat.reduceMul, q1, c48', hw]
    · rw [ho, q1]; rfl
    cases q2 : inB x.2.2.1 1 1000000 <;> simp only [go_sem, ↓reduceIte, Nat.reduceEqDiff, reduceCtorEq, Nat.reduceAdd, Nat.reduceLeDiff, Nat.reduceMul, q2, c61', hw]
    · rw [ho, q1, q2]; rfl
    · rw [ho, q1, q2]; rfl
theorem f73 {H : Hp} {x : Wt} : Scal EE 73 [.agg #[.bool x.1, .int .i64 x.2.1, .int .i64 x.2.2.1, .int .i64 x.2.2.2]] H (.bool (wtOk x)) := by
  refine scal_ok rfl rfl k73 (by simp [c73]) rfl fun m hw => ?_
  simp only [go_sem, ↓reduceIte, Nat.reduceEqDiff, reduceCtorEq, Nat.reduceAdd, Nat.reduceLeDiff, Nat.reduceMul, c73]
  cases q0 : x.1
  · simp only [go_sem, ↓reduceIte, Nat.reduceEqDiff, reduceCtorEq, Nat.reduceAdd, Nat.reduceLeDiff, Nat.reduceMul, q0, exps, buildK, fillL, zeros_4]
    rw [wt_off q0]
    try simp
  · have ho := wt_on q0
    simp only [go_sem, ↓reduceIte, Nat.reduceEqDiff, reduceCtorEq, Nat.reduceAdd, Nat.reduceLeDiff, Nat.reduceMul, q0, c109', hw]
    cases q1 : inB x.2.1 0 1000000 <;> simp only [go_sem, ↓reduceIte, Nat.reduceEqDiff, reduceCtorEq, Nat.reduceAdd, Nat.reduceLeDiff, Nat.reduceMul, q1, c110', hw]
    · rw [ho, q1]; rfl
    cases q2 : inB x.2.2.1 1 1000000 <;> simp only [go_sem, ↓reduceIte, Nat.reduceEqDiff, reduceCtorEq, Nat.reduceAdd, Nat.reduceLeDiff, Nat.reduceMul, q2, c111', hw]
    · rw [ho, q1, q2]; rfl
    · rw [ho, q1, q2]; rfl
end Go.Proofs.YtglboiahgpfjdaaGreat.Ev

/- Texts: is one among others? -/
namespace Go.Proofs.YtglboiahgpfjdaaGreat.Ev
set_option linter.all false
open Go
set_option maxRecDepth 4000

def eS (b : ByteArray) : List Value := [.string b]
abbrev SlS (H : Hp) (v : Value) (l : List ByteArray) : Prop := Sl (En eS) 1 H v l
theorem Sl.str {H : Hp} {v : Value} {l : List ByteArray} (h : SlS H v l) {i : Nat} {a : ByteArray} (hi : l[i]? = some a) : ∃ id p o, H[id]? = some o ∧ o[p]? = some (.string a) ∧
    ∀ (s : St) (x y : X), exv s.ρ x = some v → exv s.ρ y = some (.int .i64 i) → iadrK s 1 x y = some (.val (.pointer (some ⟨id, p, some o.length⟩)), s) := by
  obtain ⟨id, p, o, ho, hr, hp, hia⟩ := h.elem hi
  unfold En at hr
  exact ⟨id, p, o, ho, by simpa [eS] using getElem?_of_take hr (j := 0) (by omega), hia⟩
theorem f98 {H : Hp} {v : Value} {l : List ByteArray} {h : ByteArray} (hl : SlS H v l) : Scal EE 98 [v, .string h] H (.bool (l.any fun a => decide (a = h))) := by
  refine scal_ok rfl rfl k98 (by simp [c98]) rfl fun m hw => ?_
  have hroom := hl.room
  simp only [go_sem, ↓reduceIte, Nat.reduceEqDiff, reduceCtorEq, Nat.reduceAdd, Nat.reduceLeDiff, Nat.reduceMul, c98]
  refine go_for l.length (fun i s => s.H = H ∧ s.ρ 0 = .val v ∧ s.ρ 1 = .val (.string h) ∧ s.ρ 5 = .val (.int .i64 i) ∧ ∀ a ∈ l.take i, decide (a = h) = false) (fun s => s.H = H ∧ ∀ a ∈ l, decide (a = h) = false) (by simp [upd, ini]) ?_ ?_
  · rintro i s hi ⟨hH, h0, h3, h5, hn⟩
    simp only [go_sem, ↓reduceIte, Nat.reduceEqDiff, reduceCtorEq, Nat.reduceAdd, Nat.reduceLeDiff, Nat.reduceMul, h0, h3, h5, hl.len]
    cases c1 : decide ((i : Int) < (l.length : Int)) <;> simp only [go_sem, ↓reduceIte, Nat.reduceEqDiff, reduceCtorEq, Nat.reduceAdd, Nat.reduceLeDiff, Nat.reduceMul, h0, h3, h5, c1]
    · have : i = l.length := by have := of_decide_eq_false c1; omega
      subst this
      rw [List.take_length] at hn
      exact ⟨hH, hn⟩
    have h2 : i < l.length := by have := of_decide_eq_true c1; omega
    have w1 := wrap64 ((i : Int) + 1) (by omega) (by omega)
    obtain ⟨id, p, o, ho, hr, hia⟩ := hl.str (List.getElem?_eq_getElem h2)
    simp only [go_sem, ↓reduceIte, Nat.reduceEqDiff, reduceCtorEq, Nat.reduceAdd, Nat.reduceLeDiff, Nat.reduceMul, h0, h3, h5, hia, hH, ho, hr]
    cases q : decide (l[i] = h) <;> simp only [go_sem, ↓reduceIte, Nat.reduceEqDiff, reduceCtorEq, Nat.reduceAdd, Nat.reduceLeDiff, Nat.reduceMul, h0, h3, h5, q, w1]
    · exact ⟨h2, by simp, none_succ (p := fun a => decide (a = h)) h2 hn q⟩
    · rw [show (l.any fun a => decide (a = h)) = true from List.any_eq_true.2 ⟨_, List.getElem_mem h2, q⟩]
  · rintro s ⟨hH, hn⟩
    simp only [go_sem, ↓reduceIte, Nat.reduceEqDiff, reduceCtorEq, Nat.reduceAdd, Nat.reduceLeDiff, Nat.reduceMul, hH]
    rw [show (l.any fun a => decide (a = h)) = false from List.any_eq_false.2 fun a ha => by rw [hn a ha]; simp]
theorem f144 {H : Hp} {v : Value} {l : List ByteArray} {h : ByteArray} (hl : SlS H v l) : ScalP EE 144 [v, .string h] H fun r => ∃ n : Int, r = .int .i64 n ∧ IdxR l (fun y => decide (h = y)) n := by
  refine scalP_ok rfl rfl k144 (by simp [c144]) fun m hw => ?_
  have hroom := hl.room
  simp only [go_sem, ↓reduceIte, Nat.reduceEqDiff, reduceCtorEq, Nat.reduceAdd, Nat.reduceLeDiff, Nat.reduceMul, c144, hl.len]
  refine go_for l.length (fun i s => s.H = H ∧ s.ρ 0 = .val v ∧ s.ρ 1 = .val (.string h) ∧ s.ρ 7 = .val (.int .i64 l.length) ∧ s.ρ 8 = .val (.int .i64 i) ∧ ∀ a ∈ l.take i, decide (h = a) = false) (fun s => s.H = H ∧ ∀ a ∈ l, decide (h = a) = false) (by simp [upd, ini]) ?_ ?_
  · rintro i s hi ⟨hH, k0, k1, k7, k8, hn⟩
    simp only [go_sem, ↓reduceIte, Nat.reduceEqDiff, reduceCtorEq, Nat.reduceAdd, Nat.reduceLeDiff, Nat.reduceMul, k0, k1, k7, k8]
    cases c1 : decide ((i : Int) < (l.length : Int)) <;> simp only [go_sem, ↓reduceIte, Nat.reduceEqDiff, reduceCtorEq, Nat.reduceAdd, Nat.reduceLeDiff, Nat.reduceMul, k0, k1, k7, k8, c1]
    · have : i = l.length := by have := of_decide_eq_false c1; omega
      subst this
      rw [List.take_length] at hn
      exact ⟨hH, hn⟩
    have hil : i < l.length := by have := of_decide_eq_true c1; omega
    have w1 := wrap64 ((i : Int) + 1) (by omega) (by omega)
    obtain ⟨id, p, o, ho, hr, hia⟩ := hl.str (List.getElem?_eq_getElem hil)
    simp only [go_sem, ↓reduceIte, Nat.reduceEqDiff, reduceCtorEq, Nat.reduceAdd, Nat.reduceLeDiff, Nat.reduceMul, k0, k1, k7, k8, hia, hH, ho, hr]
    cases q2 : decide (h = l[i]) <;> simp only [go_sem, ↓reduceIte, Nat.reduceEqDiff, reduceCtorEq, Nat.reduceAdd, Nat.reduceLeDiff, Nat.reduceMul, k0, k1, k7, k8, q2, w1]
    · exact ⟨hil, by simp, none_succ (p := fun a => decide (h = a)) hil hn q2⟩
    · exact ⟨_, rfl, .inr ⟨i, hil, rfl, q2, hn⟩⟩
  · rintro s ⟨hH, hn⟩
    simp only [go_sem, ↓reduceIte, Nat.reduceEqDiff, reduceCtorEq, Nat.reduceAdd, Nat.reduceLeDiff, Nat.reduceMul, hH]
    exact ⟨-1, rfl, .inl ⟨rfl, hn⟩⟩
theorem f124 {H : Hp} {v : Value} {l : List ByteArray} {h : ByteArray} (hl : SlS H v l) : Scal EE 124 [v, .string h] H (.bool (l.any fun y => decide (h = y))) := by
  refine scal_ok rfl rfl k124 (by simp [c124]) rfl fun m hw => ?_
  simp only [go_sem, ↓reduceIte, Nat.reduceEqDiff, reduceCtorEq, Nat.reduceAdd, Nat.reduceLeDiff, Nat.reduceMul, c124]
  refine callT_to (fun m' h => f144 hl m' h) rfl hw fun r H' ⟨⟨n, e, hn⟩, e2⟩ => ?_
  subst e; subst e2
  simp only [go_sem, ↓reduceIte, Nat.reduceEqDiff, reduceCtorEq, Nat.reduceAdd, Nat.reduceLeDiff, Nat.reduceMul, hn.any]
end Go.Proofs.YtglboiahgpfjdaaGreat.Ev

/- Code of the program's functions, as the small machine has it: written by mkcode.py. -/
namespace Go.Proofs.YtglboiahgpfjdaaGreat.Ev
set_option linter.all false
open Go
def c160 : CF := ⟨25, (.seq (.reg false [⟨(some 2), .none, (.mov (.c (.string ⟨#[]⟩))), 0, []⟩]) (.seq (.seq (.reg false [⟨(some 4), .none, (.mov (.t 0)), 0, []⟩, ⟨(some 5), .none, (.call 48 [(.t 4), (.c (.int .i64 0)), (.c (.int .i64 562949953421311))]), 1, []⟩, ⟨(some 6), .none, (.un .not (.t 5)), 2, []⟩]) (.cond (.t 6) (.seq (.reg false [⟨(some 2), .none, (.mov (.c (.string ⟨#[]⟩))), 0, []⟩]) .ret) .skip)) (.seq (.reg false [⟨(some 7), .none, (.mkO 0 1 [(.int .u8 0)] []), 0, []⟩, ⟨(some 3), .none, (.mov (.t 7)), 1, []⟩]) (.seq (.block 0 (.loop (.seq (.seq (.reg false [⟨(some 8), .none, (.mov (.t 0)), 0, []⟩, ⟨(some 9), .none, (.bin .geq (.t 8) (.c (.int .i64 128))), 1, []⟩]) (.cond (.t 9) .skip (.exit 0))) (.block 1 (.seq (.reg false [⟨(some 10), .none, (.mov (.t 3)), 0, []⟩, ⟨(some 11), .none, (.mov (.t 0)), 1, []⟩, ⟨(some 12), .none, (.bin .rem (.t 11) (.c (.int .i64 128))), 2, []⟩, ⟨(some 13), .none, (.bin .add (.c (.int .i64 128)) (.t 12)), 3, []⟩, ⟨(some 14), .none, (.toInt .u8 (.t 13)), 4, []⟩, ⟨(some 15), .none, (.mkV 1 1 [(.int .u8 0)] [(0, (.t 14))]), 5, []⟩, ⟨(some 16), .none, (.app 1 1 (.t 10) (.t 15)), 6, []⟩, ⟨(some 3), .none, (.mov (.t 16)), 7, []⟩]) (.reg false [⟨(some 17), .none, (.mov (.t 0)), 0, []⟩, ⟨(some 18), .none, (.bin .quo (.t 17) (.c (.int .i64 128))), 1, []⟩, ⟨(some 0), .none, (.mov (.t 18)), 2, []⟩])))))) (.seq (.reg false [⟨(some 19), .none, (.mov (.t 3)), 0, []⟩, ⟨(some 20), .none, (.mov (.t 0)), 1, []⟩, ⟨(some 21), .none, (.toInt .u8 (.t 20)), 2, []⟩, ⟨(some 22), .none, (.mkV 1 1 [(.int .u8 0)] [(0, (.t 21))]), 3, []⟩, ⟨(some 23), .none, (.app 1 1 (.t 19) (.t 22)), 4, []⟩, ⟨(some 24), .none, (.b2s (.t 23)), 5, []⟩, ⟨(some 2), .none, (.mov (.t 24)), 6, []⟩]) .ret))))), [(.t 2)]⟩
theorem k160 : EE.fns 160 = some c160 := by kernel_rfl
def c172 : CF := ⟨25, (.seq (.reg false [⟨(some 2), .none, (.mov (.c (.string ⟨#[]⟩))), 0, []⟩]) (.seq (.seq (.reg false [⟨(some 4), .none, (.mov (.t 0)), 0, []⟩, ⟨(some 5), .none, (.call 82 [(.t 4), (.c (.int .i64 0)), (.c (.int .i64 562949953421311))]), 1, []⟩, ⟨(some 6), .none, (.un .not (.t 5)), 2, []⟩]) (.cond (.t 6) (.seq (.reg false [⟨(some 2), .none, (.mov (.c (.string ⟨#[]⟩))), 0, []⟩]) .ret) .skip)) (.seq (.reg false [⟨(some 7), .none, (.mkO 0 1 [(.int .u8 0)] []), 0, []⟩, ⟨(some 3), .none, (.mov (.t 7)), 1, []⟩]) (.seq (.block 0 (.loop (.seq (.seq (.reg false [⟨(some 8), .none, (.mov (.t 0)), 0, []⟩, ⟨(some 9), .none, (.bin .gtr (.t 8) (.c (.int .i64 127))), 1, []⟩]) (.cond (.t 9) .skip (.exit 0))) (.block 1 (.seq (.reg false [⟨(some 10), .none, (.mov (.t 3)), 0, []⟩, ⟨(some 11), .none, (.mov (.t 0)), 1, []⟩, ⟨(some 12), .none, (.bin .and (.t 11) (.c (.int .i64 127))), 2, []⟩, ⟨(some 13), .none, (.bin .or (.t 12) (.c (.int .i64 128))), 3, []⟩, ⟨(some 14), .none, (.toInt .u8 (.t 13)), 4, []⟩, ⟨(some 15), .none, (.mkV 1 1 [(.int .u8 0)] [(0, (.t 14))]), 5, []⟩, ⟨(some 16), .none, (.app 1 1 (.t 10) (.t 15)), 6, []⟩, ⟨(some 3), .none, (.mov (.t 16)), 7, []⟩]) (.reg false [⟨(some 17), .none, (.mov (.t 0)), 0, []⟩, ⟨(some 18), .none, (.bin .shr (.t 17) (.c (.int .u64 7))), 1, []⟩, ⟨(some 0), .none, (.mov (.t 18)), 2, []⟩])))))) (.seq (.reg false [⟨(some 19), .none, (.mov (.t 3)), 0, []⟩, ⟨(some 20), .none, (.mov (.t 0)), 1, []⟩, ⟨(some 21), .none, (.toInt .u8 (.t 20)), 2, []⟩, ⟨(some 22), .none, (.mkV 1 1 [(.int .u8 0)] [(0, (.t 21))]), 3, []⟩, ⟨(some 23), .none, (.app 1 1 (.t 19) (.t 22)), 4, []⟩, ⟨(some 24), .none, (.b2s (.t 23)), 5, []⟩, ⟨(some 2), .none, (.mov (.t 24)), 6, []⟩]) .ret))))), [(.t 2)]⟩
theorem k172 : EE.fns 172 = some c172 := by kernel_rfl
end Go.Proofs.YtglboiahgpfjdaaGreat.Ev

/- Numbers as bytes, and read from bytes: both ways (ported from seat r6). -/
namespace Go.Proofs.YtglboiahgpfjdaaGreat.Ev
set_option linter.all false
open Go
set_option maxRecDepth 4000

theorem c48x {m : Md} {draw : Bool} {s : St} {d : Option Nat} {ts : List Tk} {Q : Ex → St → Prop} {a b c : Int} (hw : Wr m s.H) :
    callT EE m draw 48 (some [.int .i64 a, .int .i64 b, .int .i64 c]) s d ts Q = go EE m ts { s with ρ := upd s.ρ d (.val (.bool (decide (a ≥ b) && decide (a ≤ c)))) } Q := c48' hw
theorem c82x {m : Md} {draw : Bool} {s : St} {d : Option Nat} {ts : List Tk} {Q : Ex → St → Prop} {a b c : Int} (hw : Wr m s.H) :
    callT EE m draw 82 (some [.int .i64 a, .int .i64 b, .int .i64 c]) s d ts Q = go EE m ts { s with ρ := upd s.ρ d (.val (.bool (decide (a ≥ b) && decide (a ≤ c)))) } Q := c82' hw
theorem varB_in {n : Int} (h : (decide (n ≥ 0) && decide (n ≤ 562949953421311)) = true) : 0 ≤ n ∧ n ≤ 562949953421311 := by simpa using h
theorem varB_out {n : Int} (h : (decide (n ≥ 0) && decide (n ≤ 562949953421311)) = false) : varB n = ⟨#[]⟩ := by
  unfold varB
  rw [if_neg (fun h2 => by simp at h; omega)]
  rfl
theorem ne128 : ¬ ((128 : Int) = 0) := by decide

theorem f160 {H : Hp} {n : Int} : Scal EE 160 [.int .i64 n] H (.string (varB n)) := by
  refine scal_ok rfl rfl k160 (by simp [c160]) rfl fun m hw => ?_
  simp only [go_nil, go_blk, go_skip, go_ret, go_exit, go_seq, go_block, go_reg, go_r0, go_r, go_d0, go_d, go_e0, go_e, box2, Option.isSome_some, Nat.le_refl, go_cond, go_o, go_g, aft_some, cnd_bool, grd_bool, grd_tup, brT_true, brT_false, brT_not, thr_exit, thr_c, thr_nil, stp, stepK, movK, mv1, ex, exv, exvs, upd_some, upd_none, ini, St.val, binK, binV, ofV, pickK, unK, unV, beqK, beq_true, beq_false, if_true, if_false, List.getElem?_cons_zero, List.getElem?_cons_succ, ↓reduceIte, Nat.reduceEqDiff, reduceCtorEq, loadK, adr, deref, Ad.fv, Ad.live, fadrK, List.length_cons, List.length_nil, List.drop_zero, List.drop_succ_cons, List.take_succ_cons, List.take_zero, Nat.reduceAdd, Nat.reduceLeDiff, Nat.zero_add, Nat.add_zero, aeqK, agEq, scEq, boxVK, newVK, exc, vc_agg, vc_int, vc_bool, vc_str, vc_ptr, vc_sl, vc_fn, boxOf, adInf, List.reverse_cons, List.reverse_nil, List.nil_append, List.cons_append, extK, Bool.and_true, Bool.true_and, Bool.not_true, Bool.not_false, resT, resVs, resV, true_and, and_true, storeK, spl_nil, spl_z, spl_1, spl_2, spl_3, spl_4, spl_5, spl_6, spl_7, spl_8, scal_int, scal_bool, scal_str, scal_nil, implies_true, Bool.and_self, Post_ret, Post_normal, PostS_ret, PostS_normal, retT_true, retT_false, flat_bool, flat_int, flat_str, List.take_length, decide_true, decide_false, Option.some.injEq, Value.bool.injEq, Value.int.injEq, Bool.false_and, Bool.and_false, not_false_eq_true, not_true_eq_false, toIntK, List.length_set, Nat.reduceMul, Bool.not_eq_true, Bool.not_eq_false, List.all_cons, List.all_nil, exps, fillL, buildK, strK, nilcK, fnK, callVT, List.size_toArray, List.append_nil, List.singleton_append, boxOK, newOK, scal_nil, List.isEmpty_nil, List.isEmpty_cons, mkVK, mkOK, mkCells, zeros_0, zeros_1, zeros_2, zeros_3, zeros_4, List.map_cons, List.map_nil, c160, c48x, hw, fillL]
  refine brT.intro (fun h => ?_) (fun h => ?_) <;> simp only [go_nil, go_blk, go_skip, go_ret, go_exit, go_seq, go_block, go_reg, go_r0, go_r, go_d0, go_d, go_e0, go_e, box2, Option.isSome_some, Nat.le_refl, go_cond, go_o, go_g, aft_some, cnd_bool, grd_bool, grd_tup, brT_true, brT_false, brT_not, thr_exit, thr_c, thr_nil, stp, stepK, movK, mv1, ex, exv, exvs, upd_some, upd_none, ini, St.val, binK, binV, ofV, pickK, unK, unV, beqK, beq_true, beq_false, if_true, if_false, List.getElem?_cons_zero, List.getElem?_cons_succ, ↓reduceIte, Nat.reduceEqDiff, reduceCtorEq, loadK, adr, deref, Ad.fv, Ad.live, fadrK, List.length_cons, List.length_nil, List.drop_zero, List.drop_succ_cons, List.take_succ_cons, List.take_zero, Nat.reduceAdd, Nat.reduceLeDiff, Nat.zero_add, Nat.add_zero, aeqK, agEq, scEq, boxVK, newVK, exc, vc_agg, vc_int, vc_bool, vc_str, vc_ptr, vc_sl, vc_fn, boxOf, adInf, List.reverse_cons, List.reverse_nil, List.nil_append, List.cons_append, extK, Bool.and_true, Bool.true_and, Bool.not_true, Bool.not_false, resT, resVs, resV, true_and, and_true, storeK, spl_nil, spl_z, spl_1, spl_2, spl_3, spl_4, spl_5, spl_6, spl_7, spl_8, scal_int, scal_bool, scal_str, scal_nil, implies_true, Bool.and_self, Post_ret, Post_normal, PostS_ret, PostS_normal, retT_true, retT_false, flat_bool, flat_int, flat_str, List.take_length, decide_true, decide_false, Option.some.injEq, Value.bool.injEq, Value.int.injEq, Bool.false_and, Bool.and_false, not_false_eq_true, not_true_eq_false, toIntK, List.length_set, Nat.reduceMul, Bool.not_eq_true, Bool.not_eq_false, List.all_cons, List.all_nil, exps, fillL, buildK, strK, nilcK, fnK, callVT, List.size_toArray, List.append_nil, List.singleton_append, boxOK, newOK, scal_nil, List.isEmpty_nil, List.isEmpty_cons, mkVK, mkOK, mkCells, zeros_0, zeros_1, zeros_2, zeros_3, zeros_4, List.map_cons, List.map_nil, fillL]
  rotate_left
  · rw [varB_out h]
  obtain ⟨h0, h1⟩ := varB_in h
  obtain ⟨k, rfl⟩ : ∃ k : Nat, n = k := ⟨n.toNat, by omega⟩
  have hV : varB (k : Int) = strOf (varL k) := by unfold varB; rw [if_pos ⟨h0, h1⟩]; rfl
  have h7 : (128 : Nat) ^ (6 + 1) = 562949953421312 := by decide
  have hlen := varL_len 6 k (by omega)
  rw [hV]
  refine go_loop (fun j s => H <+: s.H ∧ s.ρ 0 = .val (.int .i64 j) ∧ j ≤ k ∧ ∃ wv l, s.ρ 3 = .val wv ∧ SlN s.H wv l ∧ OwnS H.length wv ∧ l ++ varL j = varL k)
    (fun s => H <+: s.H ∧ ∃ (j : Nat) (wv : Value) (l : List Nat), s.ρ 0 = .val (.int .i64 j) ∧ j < 128 ∧ s.ρ 3 = .val wv ∧ SlN s.H wv l ∧ OwnS H.length wv ∧ l ++ [j] = varL k) k ?_ ?_ ?_
  · exact ⟨List.prefix_append _ _, by simp [upd, ini], Nat.le_refl _, _, [], by simp [upd], own_newN, .inr ⟨_, _, _, _, rfl, Nat.le_refl _⟩, rfl⟩
  · rintro j s ⟨hH, h0', hj, wv, l, h3, hs, ho, hl⟩
    simp only [go_nil, go_blk, go_skip, go_ret, go_exit, go_seq, go_block, go_reg, go_r0, go_r, go_d0, go_d, go_e0, go_e, box2, Option.isSome_some, Nat.le_refl, go_cond, go_o, go_g, aft_some, cnd_bool, grd_bool, grd_tup, brT_true, brT_false, brT_not, thr_exit, thr_c, thr_nil, stp, stepK, movK, mv1, ex, exv, exvs, upd_some, upd_none, ini, St.val, binK, binV, ofV, pickK, unK, unV, beqK, beq_true, beq_false, if_true, if_false, List.getElem?_cons_zero, List.getElem?_cons_succ, ↓reduceIte, Nat.reduceEqDiff, reduceCtorEq, loadK, adr, deref, Ad.fv, Ad.live, fadrK, List.length_cons, List.length_nil, List.drop_zero, List.drop_succ_cons, List.take_succ_cons, List.take_zero, Nat.reduceAdd, Nat.reduceLeDiff, Nat.zero_add, Nat.add_zero, aeqK, agEq, scEq, boxVK, newVK, exc, vc_agg, vc_int, vc_bool, vc_str, vc_ptr, vc_sl, vc_fn, boxOf, adInf, List.reverse_cons, List.reverse_nil, List.nil_append, List.cons_append, extK, Bool.and_true, Bool.true_and, Bool.not_true, Bool.not_false, resT, resVs, resV, true_and, and_true, storeK, spl_nil, spl_z, spl_1, spl_2, spl_3, spl_4, spl_5, spl_6, spl_7, spl_8, scal_int, scal_bool, scal_str, scal_nil, implies_true, Bool.and_self, Post_ret, Post_normal, PostS_ret, PostS_normal, retT_true, retT_false, flat_bool, flat_int, flat_str, List.take_length, decide_true, decide_false, Option.some.injEq, Value.bool.injEq, Value.int.injEq, Bool.false_and, Bool.and_false, not_false_eq_true, not_true_eq_false, toIntK, List.length_set, Nat.reduceMul, Bool.not_eq_true, Bool.not_eq_false, List.all_cons, List.all_nil, exps, fillL, buildK, strK, nilcK, fnK, callVT, List.size_toArray, List.append_nil, List.singleton_append, boxOK, newOK, scal_nil, List.isEmpty_nil, List.isEmpty_cons, mkVK, mkOK, mkCells, zeros_0, zeros_1, zeros_2, zeros_3, zeros_4, List.map_cons, List.map_nil, h0', h3]
    refine brT.intro (fun q1 => ?_) (fun q1 => ?_) <;> simp only [go_nil, go_blk, go_skip, go_ret, go_exit, go_seq, go_block, go_reg, go_r0, go_r, go_d0, go_d, go_e0, go_e, box2, Option.isSome_some, Nat.le_refl, go_cond, go_o, go_g, aft_some, cnd_bool, grd_bool, grd_tup, brT_true, brT_false, brT_not, thr_exit, thr_c, thr_nil, stp, stepK, movK, mv1, ex, exv, exvs, upd_some, upd_none, ini, St.val, binK, binV, ofV, pickK, unK, unV, beqK, beq_true, beq_false, if_true, if_false, List.getElem?_cons_zero, List.getElem?_cons_succ, ↓reduceIte, Nat.reduceEqDiff, reduceCtorEq, loadK, adr, deref, Ad.fv, Ad.live, fadrK, List.length_cons, List.length_nil, List.drop_zero, List.drop_succ_cons, List.take_succ_cons, List.take_zero, Nat.reduceAdd, Nat.reduceLeDiff, Nat.zero_add, Nat.add_zero, aeqK, agEq, scEq, boxVK, newVK, exc, vc_agg, vc_int, vc_bool, vc_str, vc_ptr, vc_sl, vc_fn, boxOf, adInf, List.reverse_cons, List.reverse_nil, List.nil_append, List.cons_append, extK, Bool.and_true, Bool.true_and, Bool.not_true, Bool.not_false, resT, resVs, resV, true_and, and_true, storeK, spl_nil, spl_z, spl_1, spl_2, spl_3, spl_4, spl_5, spl_6, spl_7, spl_8, scal_int, scal_bool, scal_str, scal_nil, implies_true, Bool.and_self, Post_ret, Post_normal, PostS_ret, PostS_normal, retT_true, retT_false, flat_bool, flat_int, flat_str, List.take_length, decide_true, decide_false, Option.some.injEq, Value.bool.injEq, Value.int.injEq, Bool.false_and, Bool.and_false, not_false_eq_true, not_true_eq_false, toIntK, List.length_set, Nat.reduceMul, Bool.not_eq_true, Bool.not_eq_false, List.all_cons, List.all_nil, exps, fillL, buildK, strK, nilcK, fnK, callVT, List.size_toArray, List.append_nil, List.singleton_append, boxOK, newOK, scal_nil, List.isEmpty_nil, List.isEmpty_cons, mkVK, mkOK, mkCells, zeros_0, zeros_1, zeros_2, zeros_3, zeros_4, List.map_cons, List.map_nil, h0', h3]
    · have q2 : ¬ j < 128 := by have := of_decide_eq_true q1; omega
      have hll := congrArg List.length hl
      have hp := varL_pos j
      rw [List.length_append] at hll
      obtain ⟨v2, H2, e1, e2, e3, e4, e5, e6, e7⟩ := hs.oneN (m := m) (j % 128 + 128) ho hH.length_le hw (by omega)
      have t1 : Int.tmod (j : Int) 128 = ((j % 128 : Nat) : Int) := rfl
      have t2 : Int.tdiv (j : Int) 128 = ((j / 128 : Nat) : Int) := rfl
      have t3 : IntKind.u8.wrap (128 + ((j % 128 : Nat) : Int)) = ((j % 128 + 128 : Nat) : Int) := by rw [wrap8 _ (by omega) (by omega)]; omega
      simp only [go_nil, go_blk, go_skip, go_ret, go_exit, go_seq, go_block, go_reg, go_r0, go_r, go_d0, go_d, go_e0, go_e, box2, Option.isSome_some, Nat.le_refl, go_cond, go_o, go_g, aft_some, cnd_bool, grd_bool, grd_tup, brT_true, brT_false, brT_not, thr_exit, thr_c, thr_nil, stp, stepK, movK, mv1, ex, exv, exvs, upd_some, upd_none, ini, St.val, binK, binV, ofV, pickK, unK, unV, beqK, beq_true, beq_false, if_true, if_false, List.getElem?_cons_zero, List.getElem?_cons_succ, ↓reduceIte, Nat.reduceEqDiff, reduceCtorEq, loadK, adr, deref, Ad.fv, Ad.live, fadrK, List.length_cons, List.length_nil, List.drop_zero, List.drop_succ_cons, List.take_succ_cons, List.take_zero, Nat.reduceAdd, Nat.reduceLeDiff, Nat.zero_add, Nat.add_zero, aeqK, agEq, scEq, boxVK, newVK, exc, vc_agg, vc_int, vc_bool, vc_str, vc_ptr, vc_sl, vc_fn, boxOf, adInf, List.reverse_cons, List.reverse_nil, List.nil_append, List.cons_append, extK, Bool.and_true, Bool.true_and, Bool.not_true, Bool.not_false, resT, resVs, resV, true_and, and_true, storeK, spl_nil, spl_z, spl_1, spl_2, spl_3, spl_4, spl_5, spl_6, spl_7, spl_8, scal_int, scal_bool, scal_str, scal_nil, implies_true, Bool.and_self, Post_ret, Post_normal, PostS_ret, PostS_normal, retT_true, retT_false, flat_bool, flat_int, flat_str, List.take_length, decide_true, decide_false, Option.some.injEq, Value.bool.injEq, Value.int.injEq, Bool.false_and, Bool.and_false, not_false_eq_true, not_true_eq_false, toIntK, List.length_set, Nat.reduceMul, Bool.not_eq_true, Bool.not_eq_false, List.all_cons, List.all_nil, exps, fillL, buildK, strK, nilcK, fnK, callVT, List.size_toArray, List.append_nil, List.singleton_append, boxOK, newOK, scal_nil, List.isEmpty_nil, List.isEmpty_cons, mkVK, mkOK, mkCells, zeros_0, zeros_1, zeros_2, zeros_3, zeros_4, List.map_cons, List.map_nil, h0', h3, ne128, t1, t2, wrap64 (128 + ((j % 128 : Nat) : Int)) (by omega) (by omega), t3]
      rw [e1]
      rotate_left
      · rfl
      · rfl
      · rfl
      simp only [go_nil, go_blk, go_skip, go_ret, go_exit, go_seq, go_block, go_reg, go_r0, go_r, go_d0, go_d, go_e0, go_e, box2, Option.isSome_some, Nat.le_refl, go_cond, go_o, go_g, aft_some, cnd_bool, grd_bool, grd_tup, brT_true, brT_false, brT_not, thr_exit, thr_c, thr_nil, stp, stepK, movK, mv1, ex, exv, exvs, upd_some, upd_none, ini, St.val, binK, binV, ofV, pickK, unK, unV, beqK, beq_true, beq_false, if_true, if_false, List.getElem?_cons_zero, List.getElem?_cons_succ, ↓reduceIte, Nat.reduceEqDiff, reduceCtorEq, loadK, adr, deref, Ad.fv, Ad.live, fadrK, List.length_cons, List.length_nil, List.drop_zero, List.drop_succ_cons, List.take_succ_cons, List.take_zero, Nat.reduceAdd, Nat.reduceLeDiff, Nat.zero_add, Nat.add_zero, aeqK, agEq, scEq, boxVK, newVK, exc, vc_agg, vc_int, vc_bool, vc_str, vc_ptr, vc_sl, vc_fn, boxOf, adInf, List.reverse_cons, List.reverse_nil, List.nil_append, List.cons_append, extK, Bool.and_true, Bool.true_and, Bool.not_true, Bool.not_false, resT, resVs, resV, true_and, and_true, storeK, spl_nil, spl_z, spl_1, spl_2, spl_3, spl_4, spl_5, spl_6, spl_7, spl_8, scal_int, scal_bool, scal_str, scal_nil, implies_true, Bool.and_self, Post_ret, Post_normal, PostS_ret, PostS_normal, retT_true, retT_false, flat_bool, flat_int, flat_str, List.take_length, decide_true, decide_false, Option.some.injEq, Value.bool.injEq, Value.int.injEq, Bool.false_and, Bool.and_false, not_false_eq_true, not_true_eq_false, toIntK, List.length_set, Nat.reduceMul, Bool.not_eq_true, Bool.not_eq_false, List.all_cons, List.all_nil, exps, fillL, buildK, strK, nilcK, fnK, callVT, List.size_toArray, List.append_nil, List.singleton_append, boxOK, newOK, scal_nil, List.isEmpty_nil, List.isEmpty_cons, mkVK, mkOK, mkCells, zeros_0, zeros_1, zeros_2, zeros_3, zeros_4, List.map_cons, List.map_nil, h0', h3, ne128, t1, t2, wrap64 (((j / 128 : Nat) : Int)) (by omega) (by omega)]
      refine ⟨j / 128, by omega, e7 H (Nat.le_refl _) hH, rfl, by omega, v2, _, rfl, e2, e3, ?_⟩
      rw [List.append_assoc, List.singleton_append, ← varL_ge q2]
      exact hl
    · have q2 : j < 128 := by have := of_decide_eq_false q1; omega
      rw [varL_lt q2] at hl
      exact ⟨hH, j, wv, l, rfl, q2, rfl, hs, ho, hl⟩
  · rintro s ⟨hH, j, wv, l, h0', hj, h3, hs, ho, hl⟩
    have hll := congrArg List.length hl
    rw [List.length_append] at hll
    obtain ⟨v2, H2, e1, e2, e3, e4, e5, e6, e7⟩ := hs.oneN (m := m) j ho hH.length_le hw (by simp at hll; omega)
    have hb := e2.b2s (fun x hx => by
      rw [hl] at hx
      obtain ⟨i, hi⟩ := List.getElem?_of_mem hx
      exact (varL_bits k i x hi).1)
    simp only [go_nil, go_blk, go_skip, go_ret, go_exit, go_seq, go_block, go_reg, go_r0, go_r, go_d0, go_d, go_e0, go_e, box2, Option.isSome_some, Nat.le_refl, go_cond, go_o, go_g, aft_some, cnd_bool, grd_bool, grd_tup, brT_true, brT_false, brT_not, thr_exit, thr_c, thr_nil, stp, stepK, movK, mv1, ex, exv, exvs, upd_some, upd_none, ini, St.val, binK, binV, ofV, pickK, unK, unV, beqK, beq_true, beq_false, if_true, if_false, List.getElem?_cons_zero, List.getElem?_cons_succ, ↓reduceIte, Nat.reduceEqDiff, reduceCtorEq, loadK, adr, deref, Ad.fv, Ad.live, fadrK, List.length_cons, List.length_nil, List.drop_zero, List.drop_succ_cons, List.take_succ_cons, List.take_zero, Nat.reduceAdd, Nat.reduceLeDiff, Nat.zero_add, Nat.add_zero, aeqK, agEq, scEq, boxVK, newVK, exc, vc_agg, vc_int, vc_bool, vc_str, vc_ptr, vc_sl, vc_fn, boxOf, adInf, List.reverse_cons, List.reverse_nil, List.nil_append, List.cons_append, extK, Bool.and_true, Bool.true_and, Bool.not_true, Bool.not_false, resT, resVs, resV, true_and, and_true, storeK, spl_nil, spl_z, spl_1, spl_2, spl_3, spl_4, spl_5, spl_6, spl_7, spl_8, scal_int, scal_bool, scal_str, scal_nil, implies_true, Bool.and_self, Post_ret, Post_normal, PostS_ret, PostS_normal, retT_true, retT_false, flat_bool, flat_int, flat_str, List.take_length, decide_true, decide_false, Option.some.injEq, Value.bool.injEq, Value.int.injEq, Bool.false_and, Bool.and_false, not_false_eq_true, not_true_eq_false, toIntK, List.length_set, Nat.reduceMul, Bool.not_eq_true, Bool.not_eq_false, List.all_cons, List.all_nil, exps, fillL, buildK, strK, nilcK, fnK, callVT, List.size_toArray, List.append_nil, List.singleton_append, boxOK, newOK, scal_nil, List.isEmpty_nil, List.isEmpty_cons, mkVK, mkOK, mkCells, zeros_0, zeros_1, zeros_2, zeros_3, zeros_4, List.map_cons, List.map_nil, h0', h3, wrap8 (j : Int) (by omega) (by omega)]
    rw [e1]
    rotate_left
    · rfl
    · rfl
    · rfl
    simp only [go_nil, go_blk, go_skip, go_ret, go_exit, go_seq, go_block, go_reg, go_r0, go_r, go_d0, go_d, go_e0, go_e, box2, Option.isSome_some, Nat.le_refl, go_cond, go_o, go_g, aft_some, cnd_bool, grd_bool, grd_tup, brT_true, brT_false, brT_not, thr_exit, thr_c, thr_nil, stp, stepK, movK, mv1, ex, exv, exvs, upd_some, upd_none, ini, St.val, binK, binV, ofV, pickK, unK, unV, beqK, beq_true, beq_false, if_true, if_false, List.getElem?_cons_zero, List.getElem?_cons_succ, ↓reduceIte, Nat.reduceEqDiff, reduceCtorEq, loadK, adr, deref, Ad.fv, Ad.live, fadrK, List.length_cons, List.length_nil, List.drop_zero, List.drop_succ_cons, List.take_succ_cons, List.take_zero, Nat.reduceAdd, Nat.reduceLeDiff, Nat.zero_add, Nat.add_zero, aeqK, agEq, scEq, boxVK, newVK, exc, vc_agg, vc_int, vc_bool, vc_str, vc_ptr, vc_sl, vc_fn, boxOf, adInf, List.reverse_cons, List.reverse_nil, List.nil_append, List.cons_append, extK, Bool.and_true, Bool.true_and, Bool.not_true, Bool.not_false, resT, resVs, resV, true_and, and_true, storeK, spl_nil, spl_z, spl_1, spl_2, spl_3, spl_4, spl_5, spl_6, spl_7, spl_8, scal_int, scal_bool, scal_str, scal_nil, implies_true, Bool.and_self, Post_ret, Post_normal, PostS_ret, PostS_normal, retT_true, retT_false, flat_bool, flat_int, flat_str, List.take_length, decide_true, decide_false, Option.some.injEq, Value.bool.injEq, Value.int.injEq, Bool.false_and, Bool.and_false, not_false_eq_true, not_true_eq_false, toIntK, List.length_set, Nat.reduceMul, Bool.not_eq_true, Bool.not_eq_false, List.all_cons, List.all_nil, exps, fillL, buildK, strK, nilcK, fnK, callVT, List.size_toArray, List.append_nil, List.singleton_append, boxOK, newOK, scal_nil, List.isEmpty_nil, List.isEmpty_cons, mkVK, mkOK, mkCells, zeros_0, zeros_1, zeros_2, zeros_3, zeros_4, List.map_cons, List.map_nil]
    rw [hb]
    rotate_left
    · rfl
    · rfl
    simp only [go_nil, go_blk, go_skip, go_ret, go_exit, go_seq, go_block, go_reg, go_r0, go_r, go_d0, go_d, go_e0, go_e, box2, Option.isSome_some, Nat.le_refl, go_cond, go_o, go_g, aft_some, cnd_bool, grd_bool, grd_tup, brT_true, brT_false, brT_not, thr_exit, thr_c, thr_nil, stp, stepK, movK, mv1, ex, exv, exvs, upd_some, upd_none, ini, St.val, binK, binV, ofV, pickK, unK, unV, beqK, beq_true, beq_false, if_true, if_false, List.getElem?_cons_zero, List.getElem?_cons_succ, ↓reduceIte, Nat.reduceEqDiff, reduceCtorEq, loadK, adr, deref, Ad.fv, Ad.live, fadrK, List.length_cons, List.length_nil, List.drop_zero, List.drop_succ_cons, List.take_succ_cons, List.take_zero, Nat.reduceAdd, Nat.reduceLeDiff, Nat.zero_add, Nat.add_zero, aeqK, agEq, scEq, boxVK, newVK, exc, vc_agg, vc_int, vc_bool, vc_str, vc_ptr, vc_sl, vc_fn, boxOf, adInf, List.reverse_cons, List.reverse_nil, List.nil_append, List.cons_append, extK, Bool.and_true, Bool.true_and, Bool.not_true, Bool.not_false, resT, resVs, resV, true_and, and_true, storeK, spl_nil, spl_z, spl_1, spl_2, spl_3, spl_4, spl_5, spl_6, spl_7, spl_8, scal_int, scal_bool, scal_str, scal_nil, implies_true, Bool.and_self, Post_ret, Post_normal, PostS_ret, PostS_normal, retT_true, retT_false, flat_bool, flat_int, flat_str, List.take_length, decide_true, decide_false, Option.some.injEq, Value.bool.injEq, Value.int.injEq, Bool.false_and, Bool.and_false, not_false_eq_true, not_true_eq_false, toIntK, List.length_set, Nat.reduceMul, Bool.not_eq_true, Bool.not_eq_false, List.all_cons, List.all_nil, exps, fillL, buildK, strK, nilcK, fnK, callVT, List.size_toArray, List.append_nil, List.singleton_append, boxOK, newOK, scal_nil, List.isEmpty_nil, List.isEmpty_cons, mkVK, mkOK, mkCells, zeros_0, zeros_1, zeros_2, zeros_3, zeros_4, List.map_cons, List.map_nil, hl]
    exact pre_take (e7 H (Nat.le_refl _) hH)
theorem f172 {H : Hp} {n : Int} : Scal EE 172 [.int .i64 n] H (.string (varB n)) := by
  refine scal_ok rfl rfl k172 (by simp [c172]) rfl fun m hw => ?_
  simp only [go_nil, go_blk, go_skip, go_ret, go_exit, go_seq, go_block, go_reg, go_r0, go_r, go_d0, go_d, go_e0, go_e, box2, Option.isSome_some, Nat.le_refl, go_cond, go_o, go_g, aft_some, cnd_bool, grd_bool, grd_tup, brT_true, brT_false, brT_not, thr_exit, thr_c, thr_nil, stp, stepK, movK, mv1, ex, exv, exvs, upd_some, upd_none, ini, St.val, binK, binV, ofV, pickK, unK, unV, beqK, beq_true, beq_false, if_true, if_false, List.getElem?_cons_zero, List.getElem?_cons_succ, ↓reduceIte, Nat.reduceEqDiff, reduceCtorEq, loadK, adr, deref, Ad.fv, Ad.live, fadrK, List.length_cons, List.length_nil, List.drop_zero, List.drop_succ_cons, List.take_succ_cons, List.take_zero, Nat.reduceAdd, Nat.reduceLeDiff, Nat.zero_add, Nat.add_zero, aeqK, agEq, scEq, boxVK, newVK, exc, vc_agg, vc_int, vc_bool, vc_str, vc_ptr, vc_sl, vc_fn, boxOf, adInf, List.reverse_cons, List.reverse_nil, List.nil_append, List.cons_append, extK, Bool.and_true, Bool.true_and, Bool.not_true, Bool.not_false, resT, resVs, resV, true_and, and_true, storeK, spl_nil, spl_z, spl_1, spl_2, spl_3, spl_4, spl_5, spl_6, spl_7, spl_8, scal_int, scal_bool, scal_str, scal_nil, implies_true, Bool.and_self, Post_ret, Post_normal, PostS_ret, PostS_normal, retT_true, retT_false, flat_bool, flat_int, flat_str, List.take_length, decide_true, decide_false, Option.some.injEq, Value.bool.injEq, Value.int.injEq, Bool.false_and, Bool.and_false, not_false_eq_true, not_true_eq_false, toIntK, List.length_set, Nat.reduceMul, Bool.not_eq_true, Bool.not_eq_false, List.all_cons, List.all_nil, exps, fillL, buildK, strK, nilcK, fnK, callVT, List.size_toArray, List.append_nil, List.singleton_append, boxOK, newOK, scal_nil, List.isEmpty_nil, List.isEmpty_cons, mkVK, mkOK, mkCells, zeros_0, zeros_1, zeros_2, zeros_3, zeros_4, List.map_cons, List.map_nil, c172, c82x, hw, fillL]
  refine brT.intro (fun h => ?_) (fun h => ?_) <;> simp only [go_nil, go_blk, go_skip, go_ret, go_exit, go_seq, go_block, go_reg, go_r0, go_r, go_d0, go_d, go_e0, go_e, box2, Option.isSome_some, Nat.le_refl, go_cond, go_o, go_g, aft_some, cnd_bool, grd_bool, grd_tup, brT_true, brT_false, brT_not, thr_exit, thr_c, thr_nil, stp, stepK, movK, mv1, ex, exv, exvs, upd_some, upd_none, ini, St.val, binK, binV, ofV, pickK, unK, unV, beqK, beq_true, beq_false, if_true, if_false, List.getElem?_cons_zero, List.getElem?_cons_succ, ↓reduceIte, Nat.reduceEqDiff, reduceCtorEq, loadK, adr, deref, Ad.fv, Ad.live, fadrK, List.length_cons, List.length_nil, List.drop_zero, List.drop_succ_cons, List.take_succ_cons, List.take_zero, Nat.reduceAdd, Nat.reduceLeDiff, Nat.zero_add, Nat.add_zero, aeqK, agEq, scEq, boxVK, newVK, exc, vc_agg, vc_int, vc_bool, vc_str, vc_ptr, vc_sl, vc_fn, boxOf, adInf, List.reverse_cons, List.reverse_nil, List.nil_append, List.cons_append, extK, Bool.and_true, Bool.true_and, Bool.not_true, Bool.not_false, resT, resVs, resV, true_and, and_true, storeK, spl_nil, spl_z, spl_1, spl_2, spl_3, spl_4, spl_5, spl_6, spl_7, spl_8, scal_int, scal_bool, scal_str, scal_nil, implies_true, Bool.and_self, Post_ret, Post_normal, PostS_ret, PostS_normal, retT_true, retT_false, flat_bool, flat_int, flat_str, List.take_length, decide_true, decide_false, Option.some.injEq, Value.bool.injEq, Value.int.injEq, Bool.false_and, Bool.and_false, not_false_eq_true, not_true_eq_false, toIntK, List.length_set, Nat.reduceMul, Bool.not_eq_true, Bool.not_eq_false, List.all_cons, List.all_nil, exps, fillL, buildK, strK, nilcK, fnK, callVT, List.size_toArray, List.append_nil, List.singleton_append, boxOK, newOK, scal_nil, List.isEmpty_nil, List.isEmpty_cons, mkVK, mkOK, mkCells, zeros_0, zeros_1, zeros_2, zeros_3, zeros_4, List.map_cons, List.map_nil, fillL]
  rotate_left
  · rw [varB_out h]
  obtain ⟨h0, h1⟩ := varB_in h
  obtain ⟨k, rfl⟩ : ∃ k : Nat, n = k := ⟨n.toNat, by omega⟩
  have hV : varB (k : Int) = strOf (varL k) := by unfold varB; rw [if_pos ⟨h0, h1⟩]; rfl
  have h7 : (128 : Nat) ^ (6 + 1) = 562949953421312 := by decide
  have hlen := varL_len 6 k (by omega)
  rw [hV]
  refine go_loop (fun j s => H <+: s.H ∧ s.ρ 0 = .val (.int .i64 j) ∧ j ≤ k ∧ ∃ wv l, s.ρ 3 = .val wv ∧ SlN s.H wv l ∧ OwnS H.length wv ∧ l ++ varL j = varL k)
    (fun s => H <+: s.H ∧ ∃ (j : Nat) (wv : Value) (l : List Nat), s.ρ 0 = .val (.int .i64 j) ∧ j < 128 ∧ s.ρ 3 = .val wv ∧ SlN s.H wv l ∧ OwnS H.length wv ∧ l ++ [j] = varL k) k ?_ ?_ ?_
  · exact ⟨List.prefix_append _ _, by simp [upd, ini], Nat.le_refl _, _, [], by simp [upd], own_newN, .inr ⟨_, _, _, _, rfl, Nat.le_refl _⟩, rfl⟩
  · rintro j s ⟨hH, h0', hj, wv, l, h3, hs, ho, hl⟩
    simp only [go_nil, go_blk, go_skip, go_ret, go_exit, go_seq, go_block, go_reg, go_r0, go_r, go_d0, go_d, go_e0, go_e, box2, Option.isSome_some, Nat.le_refl, go_cond, go_o, go_g, aft_some, cnd_bool, grd_bool, grd_tup, brT_true, brT_false, brT_not, thr_exit, thr_c, thr_nil, stp, stepK, movK, mv1, ex, exv, exvs, upd_some, upd_none, ini, St.val, binK, binV, ofV, pickK, unK, unV, beqK, beq_true, beq_false, if_true, if_false, List.getElem?_cons_zero, List.getElem?_cons_succ, ↓reduceIte, Nat.reduceEqDiff, reduceCtorEq, loadK, adr, deref, Ad.fv, Ad.live, fadrK, List.length_cons, List.length_nil, List.drop_zero, List.drop_succ_cons, List.take_succ_cons, List.take_zero, Nat.reduceAdd, Nat.reduceLeDiff, Nat.zero_add, Nat.add_zero, aeqK, agEq, scEq, boxVK, newVK, exc, vc_agg, vc_int, vc_bool, vc_str, vc_ptr, vc_sl, vc_fn, boxOf, adInf, List.reverse_cons, List.reverse_nil, List.nil_append, List.cons_append, extK, Bool.and_true, Bool.true_and, Bool.not_true, Bool.not_false, resT, resVs, resV, true_and, and_true, storeK, spl_nil, spl_z, spl_1, spl_2, spl_3, spl_4, spl_5, spl_6, spl_7, spl_8, scal_int, scal_bool, scal_str, scal_nil, implies_true, Bool.and_self, Post_ret, Post_normal, PostS_ret, PostS_normal, retT_true, retT_false, flat_bool, flat_int, flat_str, List.take_length, decide_true, decide_false, Option.some.injEq, Value.bool.injEq, Value.int.injEq, Bool.false_and, Bool.and_false, not_false_eq_true, not_true_eq_false, toIntK, List.length_set, Nat.reduceMul, Bool.not_eq_true, Bool.not_eq_false, List.all_cons, List.all_nil, exps, fillL, buildK, strK, nilcK, fnK, callVT, List.size_toArray, List.append_nil, List.singleton_append, boxOK, newOK, scal_nil, List.isEmpty_nil, List.isEmpty_cons, mkVK, mkOK, mkCells, zeros_0, zeros_1, zeros_2, zeros_3, zeros_4, List.map_cons, List.map_nil, h0', h3]
    refine brT.intro (fun q1 => ?_) (fun q1 => ?_) <;> simp only [go_nil, go_blk, go_skip, go_ret, go_exit, go_seq, go_block, go_reg, go_r0, go_r, go_d0, go_d, go_e0, go_e, box2, Option.isSome_some, Nat.le_refl, go_cond, go_o, go_g, aft_some, cnd_bool, grd_bool, grd_tup, brT_true, brT_false, brT_not, thr_exit, thr_c, thr_nil, stp, stepK, movK, mv1, ex, exv, exvs, upd_some, upd_none, ini, St.val, binK, binV, ofV, pickK, unK, unV, beqK, beq_true, beq_false, if_true, if_false, List.getElem?_cons_zero, List.getElem?_cons_succ, ↓reduceIte, Nat.reduceEqDiff, reduceCtorEq, loadK, adr, deref, Ad.fv, Ad.live, fadrK, List.length_cons, List.length_nil, List.drop_zero, List.drop_succ_cons, List.take_succ_cons, List.take_zero, Nat.reduceAdd, Nat.reduceLeDiff, Nat.zero_add, Nat.add_zero, aeqK, agEq, scEq, boxVK, newVK, exc, vc_agg, vc_int, vc_bool, vc_str, vc_ptr, vc_sl, vc_fn, boxOf, adInf, List.reverse_cons, List.reverse_nil, List.nil_append, List.cons_append, extK, Bool.and_true, Bool.true_and, Bool.not_true, Bool.not_false, resT, resVs, resV, true_and, and_true, storeK, spl_nil, spl_z, spl_1, spl_2, spl_3, spl_4, spl_5, spl_6, spl_7, spl_8, scal_int, scal_bool, scal_str, scal_nil, implies_true, Bool.and_self, Post_ret, Post_normal, PostS_ret, PostS_normal, retT_true, retT_false, flat_bool, flat_int, flat_str, List.take_length, decide_true, decide_false, Option.some.injEq, Value.bool.injEq, Value.int.injEq, Bool.false_and, Bool.and_false, not_false_eq_true, not_true_eq_false, toIntK, List.length_set, Nat.reduceMul, Bool.not_eq_true, Bool.not_eq_false, List.all_cons, List.all_nil, exps, fillL, buildK, strK, nilcK, fnK, callVT, List.size_toArray, List.append_nil, List.singleton_append, boxOK, newOK, scal_nil, List.isEmpty_nil, List.isEmpty_cons, mkVK, mkOK, mkCells, zeros_0, zeros_1, zeros_2, zeros_3, zeros_4, List.map_cons, List.map_nil, h0', h3]
    · have q2 : ¬ j < 128 := by have := of_decide_eq_true q1; omega
      have hll := congrArg List.length hl
      have hp := varL_pos j
      rw [List.length_append] at hll
      obtain ⟨v2, H2, e1, e2, e3, e4, e5, e6, e7⟩ := hs.oneN (m := m) (j % 128 + 128) ho hH.length_le hw (by omega)
      have t1 := and7 (k := j) (by omega)
      have t2 : Int.fdiv (j : Int) (2 ^ (min (Int.toNat 7) IntKind.i64.bits)) = ((j / 128 : Nat) : Int) := by rw [show (2 : Int) ^ (min (Int.toNat 7) IntKind.i64.bits) = 128 by decide, Int.fdiv_eq_ediv_of_nonneg _ (by decide)]; omega
      have t3 := or128 (k := j % 128) (by omega)
      have t4 : IntKind.u8.wrap (((j % 128 + 128 : Nat) : Int)) = ((j % 128 + 128 : Nat) : Int) := wrap8 _ (by omega) (by omega)
      simp only [go_nil, go_blk, go_skip, go_ret, go_exit, go_seq, go_block, go_reg, go_r0, go_r, go_d0, go_d, go_e0, go_e, box2, Option.isSome_some, Nat.le_refl, go_cond, go_o, go_g, aft_some, cnd_bool, grd_bool, grd_tup, brT_true, brT_false, brT_not, thr_exit, thr_c, thr_nil, stp, stepK, movK, mv1, ex, exv, exvs, upd_some, upd_none, ini, St.val, binK, binV, ofV, pickK, unK, unV, beqK, beq_true, beq_false, if_true, if_false, List.getElem?_cons_zero, List.getElem?_cons_succ, ↓reduceIte, Nat.reduceEqDiff, reduceCtorEq, loadK, adr, deref, Ad.fv, Ad.live, fadrK, List.length_cons, List.length_nil, List.drop_zero, List.drop_succ_cons, List.take_succ_cons, List.take_zero, Nat.reduceAdd, Nat.reduceLeDiff, Nat.zero_add, Nat.add_zero, aeqK, agEq, scEq, boxVK, newVK, exc, vc_agg, vc_int, vc_bool, vc_str, vc_ptr, vc_sl, vc_fn, boxOf, adInf, List.reverse_cons, List.reverse_nil, List.nil_append, List.cons_append, extK, Bool.and_true, Bool.true_and, Bool.not_true, Bool.not_false, resT, resVs, resV, true_and, and_true, storeK, spl_nil, spl_z, spl_1, spl_2, spl_3, spl_4, spl_5, spl_6, spl_7, spl_8, scal_int, scal_bool, scal_str, scal_nil, implies_true, Bool.and_self, Post_ret, Post_normal, PostS_ret, PostS_normal, retT_true, retT_false, flat_bool, flat_int, flat_str, List.take_length, decide_true, decide_false, Option.some.injEq, Value.bool.injEq, Value.int.injEq, Bool.false_and, Bool.and_false, not_false_eq_true, not_true_eq_false, toIntK, List.length_set, Nat.reduceMul, Bool.not_eq_true, Bool.not_eq_false, List.all_cons, List.all_nil, exps, fillL, buildK, strK, nilcK, fnK, callVT, List.size_toArray, List.append_nil, List.singleton_append, boxOK, newOK, scal_nil, List.isEmpty_nil, List.isEmpty_cons, mkVK, mkOK, mkCells, zeros_0, zeros_1, zeros_2, zeros_3, zeros_4, List.map_cons, List.map_nil, h0', h3, t1, t3, t4]
      rw [e1]
      rotate_left
      · rfl
      · rfl
      · rfl
      simp only [go_nil, go_blk, go_skip, go_ret, go_exit, go_seq, go_block, go_reg, go_r0, go_r, go_d0, go_d, go_e0, go_e, box2, Option.isSome_some, Nat.le_refl, go_cond, go_o, go_g, aft_some, cnd_bool, grd_bool, grd_tup, brT_true, brT_false, brT_not, thr_exit, thr_c, thr_nil, stp, stepK, movK, mv1, ex, exv, exvs, upd_some, upd_none, ini, St.val, binK, binV, ofV, pickK, unK, unV, beqK, beq_true, beq_false, if_true, if_false, List.getElem?_cons_zero, List.getElem?_cons_succ, ↓reduceIte, Nat.reduceEqDiff, reduceCtorEq, loadK, adr, deref, Ad.fv, Ad.live, fadrK, List.length_cons, List.length_nil, List.drop_zero, List.drop_succ_cons, List.take_succ_cons, List.take_zero, Nat.reduceAdd, Nat.reduceLeDiff, Nat.zero_add, Nat.add_zero, aeqK, agEq, scEq, boxVK, newVK, exc, vc_agg, vc_int, vc_bool, vc_str, vc_ptr, vc_sl, vc_fn, boxOf, adInf, List.reverse_cons, List.reverse_nil, List.nil_append, List.cons_append, extK, Bool.and_true, Bool.true_and, Bool.not_true, Bool.not_false, resT, resVs, resV, true_and, and_true, storeK, spl_nil, spl_z, spl_1, spl_2, spl_3, spl_4, spl_5, spl_6, spl_7, spl_8, scal_int, scal_bool, scal_str, scal_nil, implies_true, Bool.and_self, Post_ret, Post_normal, PostS_ret, PostS_normal, retT_true, retT_false, flat_bool, flat_int, flat_str, List.take_length, decide_true, decide_false, Option.some.injEq, Value.bool.injEq, Value.int.injEq, Bool.false_and, Bool.and_false, not_false_eq_true, not_true_eq_false, toIntK, List.length_set, Nat.reduceMul, Bool.not_eq_true, Bool.not_eq_false, List.all_cons, List.all_nil, exps, fillL, buildK, strK, nilcK, fnK, callVT, List.size_toArray, List.append_nil, List.singleton_append, boxOK, newOK, scal_nil, List.isEmpty_nil, List.isEmpty_cons, mkVK, mkOK, mkCells, zeros_0, zeros_1, zeros_2, zeros_3, zeros_4, List.map_cons, List.map_nil, h0', h3, t2, Int.reduceLT]
      refine ⟨j / 128, by omega, e7 H (Nat.le_refl _) hH, rfl, by omega, v2, _, rfl, e2, e3, ?_⟩
      rw [List.append_assoc, List.singleton_append, ← varL_ge q2]
      exact hl
    · have q2 : j < 128 := by have := of_decide_eq_false q1; omega
      rw [varL_lt q2] at hl
      exact ⟨hH, j, wv, l, rfl, q2, rfl, hs, ho, hl⟩
  · rintro s ⟨hH, j, wv, l, h0', hj, h3, hs, ho, hl⟩
    have hll := congrArg List.length hl
    rw [List.length_append] at hll
    obtain ⟨v2, H2, e1, e2, e3, e4, e5, e6, e7⟩ := hs.oneN (m := m) j ho hH.length_le hw (by simp at hll; omega)
    have hb := e2.b2s (fun x hx => by
      rw [hl] at hx
      obtain ⟨i, hi⟩ := List.getElem?_of_mem hx
      exact (varL_bits k i x hi).1)
    simp only [go_nil, go_blk, go_skip, go_ret, go_exit, go_seq, go_block, go_reg, go_r0, go_r, go_d0, go_d, go_e0, go_e, box2, Option.isSome_some, Nat.le_refl, go_cond, go_o, go_g, aft_some, cnd_bool, grd_bool, grd_tup, brT_true, brT_false, brT_not, thr_exit, thr_c, thr_nil, stp, stepK, movK, mv1, ex, exv, exvs, upd_some, upd_none, ini, St.val, binK, binV, ofV, pickK, unK, unV, beqK, beq_true, beq_false, if_true, if_false, List.getElem?_cons_zero, List.getElem?_cons_succ, ↓reduceIte, Nat.reduceEqDiff, reduceCtorEq, loadK, adr, deref, Ad.fv, Ad.live, fadrK, List.length_cons, List.length_nil, List.drop_zero, List.drop_succ_cons, List.take_succ_cons, List.take_zero, Nat.reduceAdd, Nat.reduceLeDiff, Nat.zero_add, Nat.add_zero, aeqK, agEq, scEq, boxVK, newVK, exc, vc_agg, vc_int, vc_bool, vc_str, vc_ptr, vc_sl, vc_fn, boxOf, adInf, List.reverse_cons, List.reverse_nil, List.nil_append, List.cons_append, extK, Bool.and_true, Bool.true_and, Bool.not_true, Bool.not_false, resT, resVs, resV, true_and, and_true, storeK, spl_nil, spl_z, spl_1, spl_2, spl_3, spl_4, spl_5, spl_6, spl_7, spl_8, scal_int, scal_bool, scal_str, scal_nil, implies_true, Bool.and_self, Post_ret, Post_normal, PostS_ret, PostS_normal, retT_true, retT_false, flat_bool, flat_int, flat_str, List.take_length, decide_true, decide_false, Option.some.injEq, Value.bool.injEq, Value.int.injEq, Bool.false_and, Bool.and_false, not_false_eq_true, not_true_eq_false, toIntK, List.length_set, Nat.reduceMul, Bool.not_eq_true, Bool.not_eq_false, List.all_cons, List.all_nil, exps, fillL, buildK, strK, nilcK, fnK, callVT, List.size_toArray, List.append_nil, List.singleton_append, boxOK, newOK, scal_nil, List.isEmpty_nil, List.isEmpty_cons, mkVK, mkOK, mkCells, zeros_0, zeros_1, zeros_2, zeros_3, zeros_4, List.map_cons, List.map_nil, h0', h3, wrap8 (j : Int) (by omega) (by omega)]
    rw [e1]
    rotate_left
    · rfl
    · rfl
    · rfl
    simp only [go_nil, go_blk, go_skip, go_ret, go_exit, go_seq, go_block, go_reg, go_r0, go_r, go_d0, go_d, go_e0, go_e, box2, Option.isSome_some, Nat.le_refl, go_cond, go_o, go_g, aft_some, cnd_bool, grd_bool, grd_tup, brT_true, brT_false, brT_not, thr_exit, thr_c, thr_nil, stp, stepK, movK, mv1, ex, exv, exvs, upd_some, upd_none, ini, St.val, binK, binV, ofV, pickK, unK, unV, beqK, beq_true, beq_false, if_true, if_false, List.getElem?_cons_zero, List.getElem?_cons_succ, ↓reduceIte, Nat.reduceEqDiff, reduceCtorEq, loadK, adr, deref, Ad.fv, Ad.live, fadrK, List.length_cons, List.length_nil, List.drop_zero, List.drop_succ_cons, List.take_succ_cons, List.take_zero, Nat.reduceAdd, Nat.reduceLeDiff, Nat.zero_add, Nat.add_zero, aeqK, agEq, scEq, boxVK, newVK, exc, vc_agg, vc_int, vc_bool, vc_str, vc_ptr, vc_sl, vc_fn, boxOf, adInf, List.reverse_cons, List.reverse_nil, List.nil_append, List.cons_append, extK, Bool.and_true, Bool.true_and, Bool.not_true, Bool.not_false, resT, resVs, resV, true_and, and_true, storeK, spl_nil, spl_z, spl_1, spl_2, spl_3, spl_4, spl_5, spl_6, spl_7, spl_8, scal_int, scal_bool, scal_str, scal_nil, implies_true, Bool.and_self, Post_ret, Post_normal, PostS_ret, PostS_normal, retT_true, retT_false, flat_bool, flat_int, flat_str, List.take_length, decide_true, decide_false, Option.some.injEq, Value.bool.injEq, Value.int.injEq, Bool.false_and, Bool.and_false, not_false_eq_true, not_true_eq_false, toIntK, List.length_set, Nat.reduceMul, Bool.not_eq_true, Bool.not_eq_false, List.all_cons, List.all_nil, exps, fillL, buildK, strK, nilcK, fnK, callVT, List.size_toArray, List.append_nil, List.singleton_append, boxOK, newOK, scal_nil, List.isEmpty_nil, List.isEmpty_cons, mkVK, mkOK, mkCells, zeros_0, zeros_1, zeros_2, zeros_3, zeros_4, List.map_cons, List.map_nil]
    rw [hb]
    rotate_left
    · rfl
    · rfl
    simp only [go_nil, go_blk, go_skip, go_ret, go_exit, go_seq, go_block, go_reg, go_r0, go_r, go_d0, go_d, go_e0, go_e, box2, Option.isSome_some, Nat.le_refl, go_cond, go_o, go_g, aft_some, cnd_bool, grd_bool, grd_tup, brT_true, brT_false, brT_not, thr_exit, thr_c, thr_nil, stp, stepK, movK, mv1, ex, exv, exvs, upd_some, upd_none, ini, St.val, binK, binV, ofV, pickK, unK, unV, beqK, beq_true, beq_false, if_true, if_false, List.getElem?_cons_zero, List.getElem?_cons_succ, ↓reduceIte, Nat.reduceEqDiff, reduceCtorEq, loadK, adr, deref, Ad.fv, Ad.live, fadrK, List.length_cons, List.length_nil, List.drop_zero, List.drop_succ_cons, List.take_succ_cons, List.take_zero, Nat.reduceAdd, Nat.reduceLeDiff, Nat.zero_add, Nat.add_zero, aeqK, agEq, scEq, boxVK, newVK, exc, vc_agg, vc_int, vc_bool, vc_str, vc_ptr, vc_sl, vc_fn, boxOf, adInf, List.reverse_cons, List.reverse_nil, List.nil_append, List.cons_append, extK, Bool.and_true, Bool.true_and, Bool.not_true, Bool.not_false, resT, resVs, resV, true_and, and_true, storeK, spl_nil, spl_z, spl_1, spl_2, spl_3, spl_4, spl_5, spl_6, spl_7, spl_8, scal_int, scal_bool, scal_str, scal_nil, implies_true, Bool.and_self, Post_ret, Post_normal, PostS_ret, PostS_normal, retT_true, retT_false, flat_bool, flat_int, flat_str, List.take_length, decide_true, decide_false, Option.some.injEq, Value.bool.injEq, Value.int.injEq, Bool.false_and, Bool.and_false, not_false_eq_true, not_true_eq_false, toIntK, List.length_set, Nat.reduceMul, Bool.not_eq_true, Bool.not_eq_false, List.all_cons, List.all_nil, exps, fillL, buildK, strK, nilcK, fnK, callVT, List.size_toArray, List.append_nil, List.singleton_append, boxOK, newOK, scal_nil, List.isEmpty_nil, List.isEmpty_cons, mkVK, mkOK, mkCells, zeros_0, zeros_1, zeros_2, zeros_3, zeros_4, List.map_cons, List.map_nil, hl]
    exact pre_take (e7 H (Nat.le_refl _) hH)
end Go.Proofs.YtglboiahgpfjdaaGreat.Ev

/- Numbers read from bytes: the reference's and the program's. -/
namespace Go.Proofs.YtglboiahgpfjdaaGreat.Ev
set_option linter.all false
open Go
set_option maxRecDepth 4000

theorem idx_at {s : St} {x y : X} {b : ByteArray} {i : Nat} {c : UInt8} (hc : b[i]? = some c) (hx : exv s.ρ x = some (.string b)) (hy : exv s.ρ y = some (.int .i64 i)) : idxK s x y = some (.val (.int .u8 c.toNat), s) := by
  unfold idxK
  rw [hx, hy]
  simp only [Int.toNat_natCast, hc]
  rw [if_pos (by omega)]
  rfl
theorem byte_at {b : ByteArray} {i : Nat} (h : i < b.size) : ∃ c, b[i]? = some c := ⟨_, getElem?_pos b i h⟩
theorem slc_to {s : St} {x y : X} {b : ByteArray} {k : Nat} (hk : k ≤ b.size) (hx : exv s.ρ x = some (.string b)) (hy : exv s.ρ y = some (.int .i64 k)) : slcSK s x none (some y) = some (.val (.string (b.extract 0 k)), s) := by
  unfold slcSK
  rw [hx]
  simp only [bnd, hy]
  rw [if_pos ⟨by omega, by omega, by omega⟩]
  rfl
theorem slc_rest {s : St} {x y : X} {b : ByteArray} {k : Nat} (hk : k ≤ b.size) (hx : exv s.ρ x = some (.string b)) (hy : exv s.ρ y = some (.int .i64 k)) : slcSK s x (some y) none = some (.val (.string (rest b k)), s) := by
  unfold slcSK
  rw [hx]
  simp only [bnd, hy]
  rw [if_pos ⟨by omega, by omega, by omega⟩]
  rfl

theorem valB_succ {s : ByteArray} {k : Nat} {c : UInt8} (hc : s[k]? = some c) : valB s (k + 1) = valB s k + c.toNat % 128 * 128 ^ k := by
  rw [valB, hc]
theorem pow7 {k : Nat} (h : k ≤ 7) : (128 : Nat) ^ k ≤ 562949953421312 := by
  have : (128 : Nat) ^ k ≤ 128 ^ 7 := Nat.pow_le_pow_right (by decide) h
  have h7 : (128 : Nat) ^ 7 = 562949953421312 := by decide
  omega
theorem valB_max (s : ByteArray) {k : Nat} (h : k ≤ 7) : valB s k < 562949953421312 := Nat.lt_of_lt_of_le (valB_lt s k) (pow7 h)
theorem le_of_mul {n p q : Nat} (h : n * p ≤ q) (hp : 0 < p) : n ≤ q := Nat.le_trans (Nat.le_mul_of_pos_right n hp) h

theorem f140 {H : Hp} {s : ByteArray} (hs : s.size ≤ 4611686018427387904) : Scal EE 140 [.string s] H (.tuple #[.int .i64 ((rdV s).1 : Nat), .int .i64 ((rdV s).2 : Nat)]) := by
  refine scal_ok rfl rfl k140 (by simp [c140]) rfl fun m hw => ?_
  simp only [go_nil, go_blk, go_skip, go_ret, go_exit, go_seq, go_block, go_reg, go_r0, go_r, go_d0, go_d, go_e0, go_e, box2, Option.isSome_some, Nat.le_refl, go_cond, go_o, go_g, aft_some, cnd_bool, grd_bool, grd_tup, brT_true, brT_false, brT_not, thr_exit, thr_c, thr_nil, stp, stepK, movK, mv1, ex, exv, exvs, upd_some, upd_none, ini, St.val, binK, binV, ofV, pickK, unK, unV, beqK, beq_true, beq_false, if_true, if_false, List.getElem?_cons_zero, List.getElem?_cons_succ, ↓reduceIte, Nat.reduceEqDiff, reduceCtorEq, loadK, adr, deref, Ad.fv, Ad.live, fadrK, List.length_cons, List.length_nil, List.drop_zero, List.drop_succ_cons, List.take_succ_cons, List.take_zero, Nat.reduceAdd, Nat.reduceLeDiff, Nat.zero_add, Nat.add_zero, aeqK, agEq, scEq, boxVK, newVK, exc, vc_agg, vc_int, vc_bool, vc_str, vc_ptr, vc_sl, vc_fn, boxOf, adInf, List.reverse_cons, List.reverse_nil, List.nil_append, List.cons_append, extK, Bool.and_true, Bool.true_and, Bool.not_true, Bool.not_false, resT, resVs, resV, true_and, and_true, storeK, spl_nil, spl_z, spl_1, spl_2, spl_3, spl_4, spl_5, spl_6, spl_7, spl_8, scal_int, scal_bool, scal_str, scal_nil, implies_true, Bool.and_self, Post_ret, Post_normal, PostS_ret, PostS_normal, retT_true, retT_false, flat_bool, flat_int, flat_str, List.take_length, decide_true, decide_false, Option.some.injEq, Value.bool.injEq, Value.int.injEq, Bool.false_and, Bool.and_false, not_false_eq_true, not_true_eq_false, toIntK, List.length_set, Nat.reduceMul, Bool.not_eq_true, Bool.not_eq_false, List.all_cons, List.all_nil, exps, fillL, buildK, strK, nilcK, fnK, callVT, List.size_toArray, List.append_nil, List.singleton_append, boxOK, newOK, scal_nil, List.isEmpty_nil, List.isEmpty_cons, mkVK, mkOK, mkCells, zeros_0, zeros_1, zeros_2, zeros_3, zeros_4, List.map_cons, List.map_nil, c140]
  refine go_for 7 (fun i t => H <+: t.H ∧ t.ρ 0 = .val (.string s) ∧ t.ρ 4 = .val (.int .i64 ((i + 1 : Nat) : Int)) ∧ ∀ k, k ≤ i → 1 ≤ k → ¬ isV s k)
    (fun t => H <+: t.H ∧ ∀ n k, ¬ readV s n k) ?_ ?_ ?_
  · exact ⟨List.prefix_refl _, by simp [upd, ini], by simp [upd], fun k h1 h2 => by omega⟩
  · rintro i t hi ⟨hH, h0, h4, hn⟩
    simp only [go_nil, go_blk, go_skip, go_ret, go_exit, go_seq, go_block, go_reg, go_r0, go_r, go_d0, go_d, go_e0, go_e, box2, Option.isSome_some, Nat.le_refl, go_cond, go_o, go_g, aft_some, cnd_bool, grd_bool, grd_tup, brT_true, brT_false, brT_not, thr_exit, thr_c, thr_nil, stp, stepK, movK, mv1, ex, exv, exvs, upd_some, upd_none, ini, St.val, binK, binV, ofV, pickK, unK, unV, beqK, beq_true, beq_false, if_true, if_false, List.getElem?_cons_zero, List.getElem?_cons_succ, ↓reduceIte, Nat.reduceEqDiff, reduceCtorEq, loadK, adr, deref, Ad.fv, Ad.live, fadrK, List.length_cons, List.length_nil, List.drop_zero, List.drop_succ_cons, List.take_succ_cons, List.take_zero, Nat.reduceAdd, Nat.reduceLeDiff, Nat.zero_add, Nat.add_zero, aeqK, agEq, scEq, boxVK, newVK, exc, vc_agg, vc_int, vc_bool, vc_str, vc_ptr, vc_sl, vc_fn, boxOf, adInf, List.reverse_cons, List.reverse_nil, List.nil_append, List.cons_append, extK, Bool.and_true, Bool.true_and, Bool.not_true, Bool.not_false, resT, resVs, resV, true_and, and_true, storeK, spl_nil, spl_z, spl_1, spl_2, spl_3, spl_4, spl_5, spl_6, spl_7, spl_8, scal_int, scal_bool, scal_str, scal_nil, implies_true, Bool.and_self, Post_ret, Post_normal, PostS_ret, PostS_normal, retT_true, retT_false, flat_bool, flat_int, flat_str, List.take_length, decide_true, decide_false, Option.some.injEq, Value.bool.injEq, Value.int.injEq, Bool.false_and, Bool.and_false, not_false_eq_true, not_true_eq_false, toIntK, List.length_set, Nat.reduceMul, Bool.not_eq_true, Bool.not_eq_false, List.all_cons, List.all_nil, exps, fillL, buildK, strK, nilcK, fnK, callVT, List.size_toArray, List.append_nil, List.singleton_append, boxOK, newOK, scal_nil, List.isEmpty_nil, List.isEmpty_cons, mkVK, mkOK, mkCells, zeros_0, zeros_1, zeros_2, zeros_3, zeros_4, List.map_cons, List.map_nil, h0, h4, lenTK]
    refine brT.intro (fun c1 => ?_) (fun c1 => ?_) <;> simp only [go_nil, go_blk, go_skip, go_ret, go_exit, go_seq, go_block, go_reg, go_r0, go_r, go_d0, go_d, go_e0, go_e, box2, Option.isSome_some, Nat.le_refl, go_cond, go_o, go_g, aft_some, cnd_bool, grd_bool, grd_tup, brT_true, brT_false, brT_not, thr_exit, thr_c, thr_nil, stp, stepK, movK, mv1, ex, exv, exvs, upd_some, upd_none, ini, St.val, binK, binV, ofV, pickK, unK, unV, beqK, beq_true, beq_false, if_true, if_false, List.getElem?_cons_zero, List.getElem?_cons_succ, ↓reduceIte, Nat.reduceEqDiff, reduceCtorEq, loadK, adr, deref, Ad.fv, Ad.live, fadrK, List.length_cons, List.length_nil, List.drop_zero, List.drop_succ_cons, List.take_succ_cons, List.take_zero, Nat.reduceAdd, Nat.reduceLeDiff, Nat.zero_add, Nat.add_zero, aeqK, agEq, scEq, boxVK, newVK, exc, vc_agg, vc_int, vc_bool, vc_str, vc_ptr, vc_sl, vc_fn, boxOf, adInf, List.reverse_cons, List.reverse_nil, List.nil_append, List.cons_append, extK, Bool.and_true, Bool.true_and, Bool.not_true, Bool.not_false, resT, resVs, resV, true_and, and_true, storeK, spl_nil, spl_z, spl_1, spl_2, spl_3, spl_4, spl_5, spl_6, spl_7, spl_8, scal_int, scal_bool, scal_str, scal_nil, implies_true, Bool.and_self, Post_ret, Post_normal, PostS_ret, PostS_normal, retT_true, retT_false, flat_bool, flat_int, flat_str, List.take_length, decide_true, decide_false, Option.some.injEq, Value.bool.injEq, Value.int.injEq, Bool.false_and, Bool.and_false, not_false_eq_true, not_true_eq_false, toIntK, List.length_set, Nat.reduceMul, Bool.not_eq_true, Bool.not_eq_false, List.all_cons, List.all_nil, exps, fillL, buildK, strK, nilcK, fnK, callVT, List.size_toArray, List.append_nil, List.singleton_append, boxOK, newOK, scal_nil, List.isEmpty_nil, List.isEmpty_cons, mkVK, mkOK, mkCells, zeros_0, zeros_1, zeros_2, zeros_3, zeros_4, List.map_cons, List.map_nil, c1, h0, h4, lenTK]
    rotate_left
    · have : ¬ i + 1 ≤ 7 := by have := of_decide_eq_false c1; omega
      exact ⟨hH, fun n k h => hn k (by have := h.2.1; omega) h.1 h.2.2.2.2⟩
    refine brT.intro (fun c2 => ?_) (fun c2 => ?_) <;> simp only [go_nil, go_blk, go_skip, go_ret, go_exit, go_seq, go_block, go_reg, go_r0, go_r, go_d0, go_d, go_e0, go_e, box2, Option.isSome_some, Nat.le_refl, go_cond, go_o, go_g, aft_some, cnd_bool, grd_bool, grd_tup, brT_true, brT_false, brT_not, thr_exit, thr_c, thr_nil, stp, stepK, movK, mv1, ex, exv, exvs, upd_some, upd_none, ini, St.val, binK, binV, ofV, pickK, unK, unV, beqK, beq_true, beq_false, if_true, if_false, List.getElem?_cons_zero, List.getElem?_cons_succ, ↓reduceIte, Nat.reduceEqDiff, reduceCtorEq, loadK, adr, deref, Ad.fv, Ad.live, fadrK, List.length_cons, List.length_nil, List.drop_zero, List.drop_succ_cons, List.take_succ_cons, List.take_zero, Nat.reduceAdd, Nat.reduceLeDiff, Nat.zero_add, Nat.add_zero, aeqK, agEq, scEq, boxVK, newVK, exc, vc_agg, vc_int, vc_bool, vc_str, vc_ptr, vc_sl, vc_fn, boxOf, adInf, List.reverse_cons, List.reverse_nil, List.nil_append, List.cons_append, extK, Bool.and_true, Bool.true_and, Bool.not_true, Bool.not_false, resT, resVs, resV, true_and, and_true, storeK, spl_nil, spl_z, spl_1, spl_2, spl_3, spl_4, spl_5, spl_6, spl_7, spl_8, scal_int, scal_bool, scal_str, scal_nil, implies_true, Bool.and_self, Post_ret, Post_normal, PostS_ret, PostS_normal, retT_true, retT_false, flat_bool, flat_int, flat_str, List.take_length, decide_true, decide_false, Option.some.injEq, Value.bool.injEq, Value.int.injEq, Bool.false_and, Bool.and_false, not_false_eq_true, not_true_eq_false, toIntK, List.length_set, Nat.reduceMul, Bool.not_eq_true, Bool.not_eq_false, List.all_cons, List.all_nil, exps, fillL, buildK, strK, nilcK, fnK, callVT, List.size_toArray, List.append_nil, List.singleton_append, boxOK, newOK, scal_nil, List.isEmpty_nil, List.isEmpty_cons, mkVK, mkOK, mkCells, zeros_0, zeros_1, zeros_2, zeros_3, zeros_4, List.map_cons, List.map_nil, c1, c2, h0, h4]
    rotate_left
    · have : ¬ i + 1 ≤ s.size := by have := of_decide_eq_false c2; omega
      exact ⟨hH, fun n k h => hn k (by have := h.2.2.1; omega) h.1 h.2.2.2.2⟩
    have hi7 : i < 7 := by have := of_decide_eq_true c1; omega
    have his : i + 1 ≤ s.size := by have := of_decide_eq_true c2; omega
    have hvm := valB_max s (k := i + 1) (by omega)
    simp only [go_nil, go_blk, go_skip, go_ret, go_exit, go_seq, go_block, go_reg, go_r0, go_r, go_d0, go_d, go_e0, go_e, box2, Option.isSome_some, Nat.le_refl, go_cond, go_o, go_g, aft_some, cnd_bool, grd_bool, grd_tup, brT_true, brT_false, brT_not, thr_exit, thr_c, thr_nil, stp, stepK, movK, mv1, ex, exv, exvs, upd_some, upd_none, ini, St.val, binK, binV, ofV, pickK, unK, unV, beqK, beq_true, beq_false, if_true, if_false, List.getElem?_cons_zero, List.getElem?_cons_succ, ↓reduceIte, Nat.reduceEqDiff, reduceCtorEq, loadK, adr, deref, Ad.fv, Ad.live, fadrK, List.length_cons, List.length_nil, List.drop_zero, List.drop_succ_cons, List.take_succ_cons, List.take_zero, Nat.reduceAdd, Nat.reduceLeDiff, Nat.zero_add, Nat.add_zero, aeqK, agEq, scEq, boxVK, newVK, exc, vc_agg, vc_int, vc_bool, vc_str, vc_ptr, vc_sl, vc_fn, boxOf, adInf, List.reverse_cons, List.reverse_nil, List.nil_append, List.cons_append, extK, Bool.and_true, Bool.true_and, Bool.not_true, Bool.not_false, resT, resVs, resV, true_and, and_true, storeK, spl_nil, spl_z, spl_1, spl_2, spl_3, spl_4, spl_5, spl_6, spl_7, spl_8, scal_int, scal_bool, scal_str, scal_nil, implies_true, Bool.and_self, Post_ret, Post_normal, PostS_ret, PostS_normal, retT_true, retT_false, flat_bool, flat_int, flat_str, List.take_length, decide_true, decide_false, Option.some.injEq, Value.bool.injEq, Value.int.injEq, Bool.false_and, Bool.and_false, not_false_eq_true, not_true_eq_false, toIntK, List.length_set, Nat.reduceMul, Bool.not_eq_true, Bool.not_eq_false, List.all_cons, List.all_nil, exps, fillL, buildK, strK, nilcK, fnK, callVT, List.size_toArray, List.append_nil, List.singleton_append, boxOK, newOK, scal_nil, List.isEmpty_nil, List.isEmpty_cons, mkVK, mkOK, mkCells, zeros_0, zeros_1, zeros_2, zeros_3, zeros_4, List.map_cons, List.map_nil, h0, h4, wrap64 (((i + 1 : Nat) : Int) - 1) (by omega) (by omega)]
    refine go_loop (fun j t' => t'.H = t.H ∧ t'.ρ 0 = .val (.string s) ∧ t'.ρ 4 = .val (.int .i64 ((i + 1 : Nat) : Int)) ∧ t'.ρ 6 = .val (.int .i64 ((j : Int) - 1)) ∧ j ≤ i + 1 ∧ ∃ n : Nat, t'.ρ 5 = .val (.int .i64 n) ∧ n * 128 ^ j + valB s j = valB s (i + 1))
      (fun t' => t'.H = t.H ∧ t'.ρ 0 = .val (.string s) ∧ t'.ρ 4 = .val (.int .i64 ((i + 1 : Nat) : Int)) ∧ t'.ρ 5 = .val (.int .i64 ((valB s (i + 1) : Nat) : Int))) (i + 1) ?_ ?_ ?_
    · exact ⟨rfl, by simp [upd, h0], by simp [upd, h4], by simp [upd], Nat.le_refl _, 0, by simp [upd], by simp⟩
    · rintro j t' ⟨jH, j0, j4, j6, hj, n, j5, hv⟩
      simp only [go_nil, go_blk, go_skip, go_ret, go_exit, go_seq, go_block, go_reg, go_r0, go_r, go_d0, go_d, go_e0, go_e, box2, Option.isSome_some, Nat.le_refl, go_cond, go_o, go_g, aft_some, cnd_bool, grd_bool, grd_tup, brT_true, brT_false, brT_not, thr_exit, thr_c, thr_nil, stp, stepK, movK, mv1, ex, exv, exvs, upd_some, upd_none, ini, St.val, binK, binV, ofV, pickK, unK, unV, beqK, beq_true, beq_false, if_true, if_false, List.getElem?_cons_zero, List.getElem?_cons_succ, ↓reduceIte, Nat.reduceEqDiff, reduceCtorEq, loadK, adr, deref, Ad.fv, Ad.live, fadrK, List.length_cons, List.length_nil, List.drop_zero, List.drop_succ_cons, List.take_succ_cons, List.take_zero, Nat.reduceAdd, Nat.reduceLeDiff, Nat.zero_add, Nat.add_zero, aeqK, agEq, scEq, boxVK, newVK, exc, vc_agg, vc_int, vc_bool, vc_str, vc_ptr, vc_sl, vc_fn, boxOf, adInf, List.reverse_cons, List.reverse_nil, List.nil_append, List.cons_append, extK, Bool.and_true, Bool.true_and, Bool.not_true, Bool.not_false, resT, resVs, resV, true_and, and_true, storeK, spl_nil, spl_z, spl_1, spl_2, spl_3, spl_4, spl_5, spl_6, spl_7, spl_8, scal_int, scal_bool, scal_str, scal_nil, implies_true, Bool.and_self, Post_ret, Post_normal, PostS_ret, PostS_normal, retT_true, retT_false, flat_bool, flat_int, flat_str, List.take_length, decide_true, decide_false, Option.some.injEq, Value.bool.injEq, Value.int.injEq, Bool.false_and, Bool.and_false, not_false_eq_true, not_true_eq_false, toIntK, List.length_set, Nat.reduceMul, Bool.not_eq_true, Bool.not_eq_false, List.all_cons, List.all_nil, exps, fillL, buildK, strK, nilcK, fnK, callVT, List.size_toArray, List.append_nil, List.singleton_append, boxOK, newOK, scal_nil, List.isEmpty_nil, List.isEmpty_cons, mkVK, mkOK, mkCells, zeros_0, zeros_1, zeros_2, zeros_3, zeros_4, List.map_cons, List.map_nil, j0, j4, j5, j6]
      refine brT.intro (fun c3 => ?_) (fun c3 => ?_) <;> simp only [go_nil, go_blk, go_skip, go_ret, go_exit, go_seq, go_block, go_reg, go_r0, go_r, go_d0, go_d, go_e0, go_e, box2, Option.isSome_some, Nat.le_refl, go_cond, go_o, go_g, aft_some, cnd_bool, grd_bool, grd_tup, brT_true, brT_false, brT_not, thr_exit, thr_c, thr_nil, stp, stepK, movK, mv1, ex, exv, exvs, upd_some, upd_none, ini, St.val, binK, binV, ofV, pickK, unK, unV, beqK, beq_true, beq_false, if_true, if_false, List.getElem?_cons_zero, List.getElem?_cons_succ, ↓reduceIte, Nat.reduceEqDiff, reduceCtorEq, loadK, adr, deref, Ad.fv, Ad.live, fadrK, List.length_cons, List.length_nil, List.drop_zero, List.drop_succ_cons, List.take_succ_cons, List.take_zero, Nat.reduceAdd, Nat.reduceLeDiff, Nat.zero_add, Nat.add_zero, aeqK, agEq, scEq, boxVK, newVK, exc, vc_agg, vc_int, vc_bool, vc_str, vc_ptr, vc_sl, vc_fn, boxOf, adInf, List.reverse_cons, List.reverse_nil, List.nil_append, List.cons_append, extK, Bool.and_true, Bool.true_and, Bool.not_true, Bool.not_false, resT, resVs, resV, true_and, and_true, storeK, spl_nil, spl_z, spl_1, spl_2, spl_3, spl_4, spl_5, spl_6, spl_7, spl_8, scal_int, scal_bool, scal_str, scal_nil, implies_true, Bool.and_self, Post_ret, Post_normal, PostS_ret, PostS_normal, retT_true, retT_false, flat_bool, flat_int, flat_str, List.take_length, decide_true, decide_false, Option.some.injEq, Value.bool.injEq, Value.int.injEq, Bool.false_and, Bool.and_false, not_false_eq_true, not_true_eq_false, toIntK, List.length_set, Nat.reduceMul, Bool.not_eq_true, Bool.not_eq_false, List.all_cons, List.all_nil, exps, fillL, buildK, strK, nilcK, fnK, callVT, List.size_toArray, List.append_nil, List.singleton_append, boxOK, newOK, scal_nil, List.isEmpty_nil, List.isEmpty_cons, mkVK, mkOK, mkCells, zeros_0, zeros_1, zeros_2, zeros_3, zeros_4, List.map_cons, List.map_nil, j0, j4, j5, j6]
      · obtain ⟨j', rfl⟩ : ∃ j', j = j' + 1 := ⟨j - 1, by have := of_decide_eq_true c3; omega⟩
        obtain ⟨c, hc⟩ := byte_at (b := s) (i := j') (by omega)
        have j6' : ((j' + 1 : Nat) : Int) - 1 = (j' : Int) := by omega
        have hix := fun {t : St} {x y : X} => idx_at (s := t) (x := x) (y := y) hc
        have hcb : c.toNat < 256 := c.toNat_lt
        have hvs := valB_succ hc
        have hpw : 0 < (128 : Nat) ^ j' := Nat.pow_pos (by decide)
        have hn1 : (n * 128 + c.toNat % 128) * 128 ^ j' + valB s j' = valB s (i + 1) := by
          rw [Nat.add_mul, ← hv, hvs, Nat.pow_succ, Nat.mul_assoc, Nat.mul_comm 128]
          omega
        have hn2 : n * 128 + c.toNat % 128 ≤ valB s (i + 1) := le_of_mul (p := 128 ^ j') (by omega) hpw
        have t1 : Int.tmod ((c.toNat : Nat) : Int) 128 = ((c.toNat % 128 : Nat) : Int) := rfl
        simp only [go_nil, go_blk, go_skip, go_ret, go_exit, go_seq, go_block, go_reg, go_r0, go_r, go_d0, go_d, go_e0, go_e, box2, Option.isSome_some, Nat.le_refl, go_cond, go_o, go_g, aft_some, cnd_bool, grd_bool, grd_tup, brT_true, brT_false, brT_not, thr_exit, thr_c, thr_nil, stp, stepK, movK, mv1, ex, exv, exvs, upd_some, upd_none, ini, St.val, binK, binV, ofV, pickK, unK, unV, beqK, beq_true, beq_false, if_true, if_false, List.getElem?_cons_zero, List.getElem?_cons_succ, ↓reduceIte, Nat.reduceEqDiff, reduceCtorEq, loadK, adr, deref, Ad.fv, Ad.live, fadrK, List.length_cons, List.length_nil, List.drop_zero, List.drop_succ_cons, List.take_succ_cons, List.take_zero, Nat.reduceAdd, Nat.reduceLeDiff, Nat.zero_add, Nat.add_zero, aeqK, agEq, scEq, boxVK, newVK, exc, vc_agg, vc_int, vc_bool, vc_str, vc_ptr, vc_sl, vc_fn, boxOf, adInf, List.reverse_cons, List.reverse_nil, List.nil_append, List.cons_append, extK, Bool.and_true, Bool.true_and, Bool.not_true, Bool.not_false, resT, resVs, resV, true_and, and_true, storeK, spl_nil, spl_z, spl_1, spl_2, spl_3, spl_4, spl_5, spl_6, spl_7, spl_8, scal_int, scal_bool, scal_str, scal_nil, implies_true, Bool.and_self, Post_ret, Post_normal, PostS_ret, PostS_normal, retT_true, retT_false, flat_bool, flat_int, flat_str, List.take_length, decide_true, decide_false, Option.some.injEq, Value.bool.injEq, Value.int.injEq, Bool.false_and, Bool.and_false, not_false_eq_true, not_true_eq_false, toIntK, List.length_set, Nat.reduceMul, Bool.not_eq_true, Bool.not_eq_false, List.all_cons, List.all_nil, exps, fillL, buildK, strK, nilcK, fnK, callVT, List.size_toArray, List.append_nil, List.singleton_append, boxOK, newOK, scal_nil, List.isEmpty_nil, List.isEmpty_cons, mkVK, mkOK, mkCells, zeros_0, zeros_1, zeros_2, zeros_3, zeros_4, List.map_cons, List.map_nil, j0, j4, j5, j6, j6', hix, ne128, t1, wrap64 ((n : Int) * 128) (by omega) (by omega), wrap64 (((c.toNat : Nat) : Int)) (by omega) (by omega), wrap64 ((n : Int) * 128 + ((c.toNat % 128 : Nat) : Int)) (by omega) (by omega), wrap64 ((j' : Int) - 1) (by omega) (by omega)]
        exact ⟨j', by omega, jH, rfl, by omega, n * 128 + c.toNat % 128, by simp, hn1⟩
      · have : j = 0 := by have := of_decide_eq_false c3; omega
        subst this
        have : n = valB s (i + 1) := by simpa [valB] using hv
        subst this
        exact ⟨jH, rfl⟩
    · rintro t' ⟨jH, j0, j4, j5⟩
      have a160 := fun {m draw t d ts Q} => callT_at (m := m) (draw := draw) (s := t) (d := d) (ts := ts) (Q := Q) (f160 (H := t.H) (n := ((valB s (i + 1) : Nat) : Int)))
      have hsl := fun {t : St} {x y : X} => slc_to (s := t) (x := x) (y := y) his
      have wt := hw.pre hH
      simp only [go_nil, go_blk, go_skip, go_ret, go_exit, go_seq, go_block, go_reg, go_r0, go_r, go_d0, go_d, go_e0, go_e, box2, Option.isSome_some, Nat.le_refl, go_cond, go_o, go_g, aft_some, cnd_bool, grd_bool, grd_tup, brT_true, brT_false, brT_not, thr_exit, thr_c, thr_nil, stp, stepK, movK, mv1, ex, exv, exvs, upd_some, upd_none, ini, St.val, binK, binV, ofV, pickK, unK, unV, beqK, beq_true, beq_false, if_true, if_false, List.getElem?_cons_zero, List.getElem?_cons_succ, ↓reduceIte, Nat.reduceEqDiff, reduceCtorEq, loadK, adr, deref, Ad.fv, Ad.live, fadrK, List.length_cons, List.length_nil, List.drop_zero, List.drop_succ_cons, List.take_succ_cons, List.take_zero, Nat.reduceAdd, Nat.reduceLeDiff, Nat.zero_add, Nat.add_zero, aeqK, agEq, scEq, boxVK, newVK, exc, vc_agg, vc_int, vc_bool, vc_str, vc_ptr, vc_sl, vc_fn, boxOf, adInf, List.reverse_cons, List.reverse_nil, List.nil_append, List.cons_append, extK, Bool.and_true, Bool.true_and, Bool.not_true, Bool.not_false, resT, resVs, resV, true_and, and_true, storeK, spl_nil, spl_z, spl_1, spl_2, spl_3, spl_4, spl_5, spl_6, spl_7, spl_8, scal_int, scal_bool, scal_str, scal_nil, implies_true, Bool.and_self, Post_ret, Post_normal, PostS_ret, PostS_normal, retT_true, retT_false, flat_bool, flat_int, flat_str, List.take_length, decide_true, decide_false, Option.some.injEq, Value.bool.injEq, Value.int.injEq, Bool.false_and, Bool.and_false, not_false_eq_true, not_true_eq_false, toIntK, List.length_set, Nat.reduceMul, Bool.not_eq_true, Bool.not_eq_false, List.all_cons, List.all_nil, exps, fillL, buildK, strK, nilcK, fnK, callVT, List.size_toArray, List.append_nil, List.singleton_append, boxOK, newOK, scal_nil, List.isEmpty_nil, List.isEmpty_cons, mkVK, mkOK, mkCells, zeros_0, zeros_1, zeros_2, zeros_3, zeros_4, List.map_cons, List.map_nil]
      refine go_draw ?_
      simp only [go_nil, go_blk, go_skip, go_ret, go_exit, go_seq, go_block, go_reg, go_r0, go_r, go_d0, go_d, go_e0, go_e, box2, Option.isSome_some, Nat.le_refl, go_cond, go_o, go_g, aft_some, cnd_bool, grd_bool, grd_tup, brT_true, brT_false, brT_not, thr_exit, thr_c, thr_nil, stp, stepK, movK, mv1, ex, exv, exvs, upd_some, upd_none, ini, St.val, binK, binV, ofV, pickK, unK, unV, beqK, beq_true, beq_false, if_true, if_false, List.getElem?_cons_zero, List.getElem?_cons_succ, ↓reduceIte, Nat.reduceEqDiff, reduceCtorEq, loadK, adr, deref, Ad.fv, Ad.live, fadrK, List.length_cons, List.length_nil, List.drop_zero, List.drop_succ_cons, List.take_succ_cons, List.take_zero, Nat.reduceAdd, Nat.reduceLeDiff, Nat.zero_add, Nat.add_zero, aeqK, agEq, scEq, boxVK, newVK, exc, vc_agg, vc_int, vc_bool, vc_str, vc_ptr, vc_sl, vc_fn, boxOf, adInf, List.reverse_cons, List.reverse_nil, List.nil_append, List.cons_append, extK, Bool.and_true, Bool.true_and, Bool.not_true, Bool.not_false, resT, resVs, resV, true_and, and_true, storeK, spl_nil, spl_z, spl_1, spl_2, spl_3, spl_4, spl_5, spl_6, spl_7, spl_8, scal_int, scal_bool, scal_str, scal_nil, implies_true, Bool.and_self, Post_ret, Post_normal, PostS_ret, PostS_normal, retT_true, retT_false, flat_bool, flat_int, flat_str, List.take_length, decide_true, decide_false, Option.some.injEq, Value.bool.injEq, Value.int.injEq, Bool.false_and, Bool.and_false, not_false_eq_true, not_true_eq_false, toIntK, List.length_set, Nat.reduceMul, Bool.not_eq_true, Bool.not_eq_false, List.all_cons, List.all_nil, exps, fillL, buildK, strK, nilcK, fnK, callVT, List.size_toArray, List.append_nil, List.singleton_append, boxOK, newOK, scal_nil, List.isEmpty_nil, List.isEmpty_cons, mkVK, mkOK, mkCells, zeros_0, zeros_1, zeros_2, zeros_3, zeros_4, List.map_cons, List.map_nil, j0, j4, j5, a160, jH, wt, hsl]
      refine ⟨by rfl, ?_⟩
      refine brT.intro (fun c3 => ?_) (fun c3 => ?_) <;> simp only [go_nil, go_blk, go_skip, go_ret, go_exit, go_seq, go_block, go_reg, go_r0, go_r, go_d0, go_d, go_e0, go_e, box2, Option.isSome_some, Nat.le_refl, go_cond, go_o, go_g, aft_some, cnd_bool, grd_bool, grd_tup, brT_true, brT_false, brT_not, thr_exit, thr_c, thr_nil, stp, stepK, movK, mv1, ex, exv, exvs, upd_some, upd_none, ini, St.val, binK, binV, ofV, pickK, unK, unV, beqK, beq_true, beq_false, if_true, if_false, List.getElem?_cons_zero, List.getElem?_cons_succ, ↓reduceIte, Nat.reduceEqDiff, reduceCtorEq, loadK, adr, deref, Ad.fv, Ad.live, fadrK, List.length_cons, List.length_nil, List.drop_zero, List.drop_succ_cons, List.take_succ_cons, List.take_zero, Nat.reduceAdd, Nat.reduceLeDiff, Nat.zero_add, Nat.add_zero, aeqK, agEq, scEq, boxVK, newVK, exc, vc_agg, vc_int, vc_bool, vc_str, vc_ptr, vc_sl, vc_fn, boxOf, adInf, List.reverse_cons, List.reverse_nil, List.nil_append, List.cons_append, extK, Bool.and_true, Bool.true_and, Bool.not_true, Bool.not_false, resT, resVs, resV, true_and, and_true, storeK, spl_nil, spl_z, spl_1, spl_2, spl_3, spl_4, spl_5, spl_6, spl_7, spl_8, scal_int, scal_bool, scal_str, scal_nil, implies_true, Bool.and_self, Post_ret, Post_normal, PostS_ret, PostS_normal, retT_true, retT_false, flat_bool, flat_int, flat_str, List.take_length, decide_true, decide_false, Option.some.injEq, Value.bool.injEq, Value.int.injEq, Bool.false_and, Bool.and_false, not_false_eq_true, not_true_eq_false, toIntK, List.length_set, Nat.reduceMul, Bool.not_eq_true, Bool.not_eq_false, List.all_cons, List.all_nil, exps, fillL, buildK, strK, nilcK, fnK, callVT, List.size_toArray, List.append_nil, List.singleton_append, boxOK, newOK, scal_nil, List.isEmpty_nil, List.isEmpty_cons, mkVK, mkOK, mkCells, zeros_0, zeros_1, zeros_2, zeros_3, zeros_4, List.map_cons, List.map_nil, j0, j4, j5, jH, wrap64 (((i + 1 : Nat) : Int) + 1) (by omega) (by omega)]
      · have hv0 := of_decide_eq_true c3
        have hv : isV s (i + 1) := hv0
        have hr : readV s (valB s (i + 1)) (i + 1) := ⟨by omega, by omega, his, rfl, hv⟩
        rw [rdV_eq hr]
        exact ⟨rfl, pre_take hH⟩
      · have hv0 := of_decide_eq_false c3
        have hv : ¬ isV s (i + 1) := hv0
        refine ⟨hi7, hH, by simp, fun k h1 h2 => ?_⟩
        by_cases e : k = i + 1
        · subst e; exact hv
        · exact hn k (by omega) h2
  · rintro t ⟨hH, hn⟩
    simp only [go_nil, go_blk, go_skip, go_ret, go_exit, go_seq, go_block, go_reg, go_r0, go_r, go_d0, go_d, go_e0, go_e, box2, Option.isSome_some, Nat.le_refl, go_cond, go_o, go_g, aft_some, cnd_bool, grd_bool, grd_tup, brT_true, brT_false, brT_not, thr_exit, thr_c, thr_nil, stp, stepK, movK, mv1, ex, exv, exvs, upd_some, upd_none, ini, St.val, binK, binV, ofV, pickK, unK, unV, beqK, beq_true, beq_false, if_true, if_false, List.getElem?_cons_zero, List.getElem?_cons_succ, ↓reduceIte, Nat.reduceEqDiff, reduceCtorEq, loadK, adr, deref, Ad.fv, Ad.live, fadrK, List.length_cons, List.length_nil, List.drop_zero, List.drop_succ_cons, List.take_succ_cons, List.take_zero, Nat.reduceAdd, Nat.reduceLeDiff, Nat.zero_add, Nat.add_zero, aeqK, agEq, scEq, boxVK, newVK, exc, vc_agg, vc_int, vc_bool, vc_str, vc_ptr, vc_sl, vc_fn, boxOf, adInf, List.reverse_cons, List.reverse_nil, List.nil_append, List.cons_append, extK, Bool.and_true, Bool.true_and, Bool.not_true, Bool.not_false, resT, resVs, resV, true_and, and_true, storeK, spl_nil, spl_z, spl_1, spl_2, spl_3, spl_4, spl_5, spl_6, spl_7, spl_8, scal_int, scal_bool, scal_str, scal_nil, implies_true, Bool.and_self, Post_ret, Post_normal, PostS_ret, PostS_normal, retT_true, retT_false, flat_bool, flat_int, flat_str, List.take_length, decide_true, decide_false, Option.some.injEq, Value.bool.injEq, Value.int.injEq, Bool.false_and, Bool.and_false, not_false_eq_true, not_true_eq_false, toIntK, List.length_set, Nat.reduceMul, Bool.not_eq_true, Bool.not_eq_false, List.all_cons, List.all_nil, exps, fillL, buildK, strK, nilcK, fnK, callVT, List.size_toArray, List.append_nil, List.singleton_append, boxOK, newOK, scal_nil, List.isEmpty_nil, List.isEmpty_cons, mkVK, mkOK, mkCells, zeros_0, zeros_1, zeros_2, zeros_3, zeros_4, List.map_cons, List.map_nil]
    rw [rdV_none hn]
    exact ⟨rfl, pre_take hH⟩

theorem shl7 {d i : Nat} (hd : d < 128) (hi : i ≤ 6) : IntKind.i64.wrap (((d : Nat) : Int) * 2 ^ (min (Int.toNat ((7 * i : Nat) : Int)) IntKind.i64.bits)) = ((d * 128 ^ i : Nat) : Int) := by
  have e : min (Int.toNat ((7 * i : Nat) : Int)) IntKind.i64.bits = 7 * i := by
    rw [Int.toNat_natCast]
    show min (7 * i) 64 = 7 * i
    omega
  have hpow : (128 : Nat) ^ i = 2 ^ (7 * i) := by rw [show (128 : Nat) = 2 ^ 7 by decide, ← Nat.pow_mul]
  have hp : (128 : Nat) ^ i ≤ 128 ^ 6 := Nat.pow_le_pow_right (by decide) hi
  have h6 : (128 : Nat) ^ 6 = 4398046511104 := by decide
  have hm : d * 128 ^ i ≤ 127 * 128 ^ i := Nat.mul_le_mul_right _ (by omega)
  have e2 : ((d : Nat) : Int) * 2 ^ (7 * i) = ((d * 128 ^ i : Nat) : Int) := by rw [hpow]; push_cast; rfl
  rw [e, e2, wrap64 _ (by omega) (by generalize d * 128 ^ i = q at *; omega)]

theorem f161 {H : Hp} {s : ByteArray} (hs : s.size ≤ 4611686018427387904) : Scal EE 161 [.string s] H (.tuple #[.int .i64 ((rdV s).1 : Nat), .int .i64 ((rdV s).2 : Nat)]) := by
  refine scal_ok rfl rfl k161 (by simp [c161]) rfl fun m hw => ?_
  simp only [go_nil, go_blk, go_skip, go_ret, go_exit, go_seq, go_block, go_reg, go_r0, go_r, go_d0, go_d, go_e0, go_e, box2, Option.isSome_some, Nat.le_refl, go_cond, go_o, go_g, aft_some, cnd_bool, grd_bool, grd_tup, brT_true, brT_false, brT_not, thr_exit, thr_c, thr_nil, stp, stepK, movK, mv1, ex, exv, exvs, upd_some, upd_none, ini, St.val, binK, binV, ofV, pickK, unK, unV, beqK, beq_true, beq_false, if_true, if_false, List.getElem?_cons_zero, List.getElem?_cons_succ, ↓reduceIte, Nat.reduceEqDiff, reduceCtorEq, loadK, adr, deref, Ad.fv, Ad.live, fadrK, List.length_cons, List.length_nil, List.drop_zero, List.drop_succ_cons, List.take_succ_cons, List.take_zero, Nat.reduceAdd, Nat.reduceLeDiff, Nat.zero_add, Nat.add_zero, aeqK, agEq, scEq, boxVK, newVK, exc, vc_agg, vc_int, vc_bool, vc_str, vc_ptr, vc_sl, vc_fn, boxOf, adInf, List.reverse_cons, List.reverse_nil, List.nil_append, List.cons_append, extK, Bool.and_true, Bool.true_and, Bool.not_true, Bool.not_false, resT, resVs, resV, true_and, and_true, storeK, spl_nil, spl_z, spl_1, spl_2, spl_3, spl_4, spl_5, spl_6, spl_7, spl_8, scal_int, scal_bool, scal_str, scal_nil, implies_true, Bool.and_self, Post_ret, Post_normal, PostS_ret, PostS_normal, retT_true, retT_false, flat_bool, flat_int, flat_str, List.take_length, decide_true, decide_false, Option.some.injEq, Value.bool.injEq, Value.int.injEq, Bool.false_and, Bool.and_false, not_false_eq_true, not_true_eq_false, toIntK, List.length_set, Nat.reduceMul, Bool.not_eq_true, Bool.not_eq_false, List.all_cons, List.all_nil, exps, fillL, buildK, strK, nilcK, fnK, callVT, List.size_toArray, List.append_nil, List.singleton_append, boxOK, newOK, scal_nil, List.isEmpty_nil, List.isEmpty_cons, mkVK, mkOK, mkCells, zeros_0, zeros_1, zeros_2, zeros_3, zeros_4, List.map_cons, List.map_nil, c161]
  refine go_for 7 (fun i t => H <+: t.H ∧ t.ρ 0 = .val (.string s) ∧ t.ρ 5 = .val (.int .i64 i) ∧ t.ρ 4 = .val (.int .i64 ((valB s i : Nat) : Int)) ∧ i ≤ s.size ∧ ∀ k b, k < i → s[k]? = some b → 128 ≤ b.toNat)
    (fun t => H <+: t.H ∧ ∀ n k, ¬ readV s n k) ?_ ?_ ?_
  · exact ⟨List.prefix_refl _, by simp [upd, ini], by simp [upd], by simp [upd, valB], by omega, fun k b h => by omega⟩
  · rintro i t hi ⟨hH, h0, h5, h4, hil, hb⟩
    have nono : (7 ≤ i ∨ s.size ≤ i) → ∀ n k, ¬ readV s n k := fun h n k hr => by
      obtain ⟨r1, r2, r3, r4, r5⟩ := hr
      obtain ⟨b, hb2⟩ := byte_at (b := s) (i := k - 1) (by omega)
      have h1 := (isV_bits r1 r3 r5).2 b hb2
      have h2 := hb (k - 1) b (by omega) hb2
      omega
    simp only [go_nil, go_blk, go_skip, go_ret, go_exit, go_seq, go_block, go_reg, go_r0, go_r, go_d0, go_d, go_e0, go_e, box2, Option.isSome_some, Nat.le_refl, go_cond, go_o, go_g, aft_some, cnd_bool, grd_bool, grd_tup, brT_true, brT_false, brT_not, thr_exit, thr_c, thr_nil, stp, stepK, movK, mv1, ex, exv, exvs, upd_some, upd_none, ini, St.val, binK, binV, ofV, pickK, unK, unV, beqK, beq_true, beq_false, if_true, if_false, List.getElem?_cons_zero, List.getElem?_cons_succ, ↓reduceIte, Nat.reduceEqDiff, reduceCtorEq, loadK, adr, deref, Ad.fv, Ad.live, fadrK, List.length_cons, List.length_nil, List.drop_zero, List.drop_succ_cons, List.take_succ_cons, List.take_zero, Nat.reduceAdd, Nat.reduceLeDiff, Nat.zero_add, Nat.add_zero, aeqK, agEq, scEq, boxVK, newVK, exc, vc_agg, vc_int, vc_bool, vc_str, vc_ptr, vc_sl, vc_fn, boxOf, adInf, List.reverse_cons, List.reverse_nil, List.nil_append, List.cons_append, extK, Bool.and_true, Bool.true_and, Bool.not_true, Bool.not_false, resT, resVs, resV, true_and, and_true, storeK, spl_nil, spl_z, spl_1, spl_2, spl_3, spl_4, spl_5, spl_6, spl_7, spl_8, scal_int, scal_bool, scal_str, scal_nil, implies_true, Bool.and_self, Post_ret, Post_normal, PostS_ret, PostS_normal, retT_true, retT_false, flat_bool, flat_int, flat_str, List.take_length, decide_true, decide_false, Option.some.injEq, Value.bool.injEq, Value.int.injEq, Bool.false_and, Bool.and_false, not_false_eq_true, not_true_eq_false, toIntK, List.length_set, Nat.reduceMul, Bool.not_eq_true, Bool.not_eq_false, List.all_cons, List.all_nil, exps, fillL, buildK, strK, nilcK, fnK, callVT, List.size_toArray, List.append_nil, List.singleton_append, boxOK, newOK, scal_nil, List.isEmpty_nil, List.isEmpty_cons, mkVK, mkOK, mkCells, zeros_0, zeros_1, zeros_2, zeros_3, zeros_4, List.map_cons, List.map_nil, h0, h4, h5, lenTK]
    refine brT.intro (fun c1 => ?_) (fun c1 => ?_) <;> simp only [go_nil, go_blk, go_skip, go_ret, go_exit, go_seq, go_block, go_reg, go_r0, go_r, go_d0, go_d, go_e0, go_e, box2, Option.isSome_some, Nat.le_refl, go_cond, go_o, go_g, aft_some, cnd_bool, grd_bool, grd_tup, brT_true, brT_false, brT_not, thr_exit, thr_c, thr_nil, stp, stepK, movK, mv1, ex, exv, exvs, upd_some, upd_none, ini, St.val, binK, binV, ofV, pickK, unK, unV, beqK, beq_true, beq_false, if_true, if_false, List.getElem?_cons_zero, List.getElem?_cons_succ, ↓reduceIte, Nat.reduceEqDiff, reduceCtorEq, loadK, adr, deref, Ad.fv, Ad.live, fadrK, List.length_cons, List.length_nil, List.drop_zero, List.drop_succ_cons, List.take_succ_cons, List.take_zero, Nat.reduceAdd, Nat.reduceLeDiff, Nat.zero_add, Nat.add_zero, aeqK, agEq, scEq, boxVK, newVK, exc, vc_agg, vc_int, vc_bool, vc_str, vc_ptr, vc_sl, vc_fn, boxOf, adInf, List.reverse_cons, List.reverse_nil, List.nil_append, List.cons_append, extK, Bool.and_true, Bool.true_and, Bool.not_true, Bool.not_false, resT, resVs, resV, true_and, and_true, storeK, spl_nil, spl_z, spl_1, spl_2, spl_3, spl_4, spl_5, spl_6, spl_7, spl_8, scal_int, scal_bool, scal_str, scal_nil, implies_true, Bool.and_self, Post_ret, Post_normal, PostS_ret, PostS_normal, retT_true, retT_false, flat_bool, flat_int, flat_str, List.take_length, decide_true, decide_false, Option.some.injEq, Value.bool.injEq, Value.int.injEq, Bool.false_and, Bool.and_false, not_false_eq_true, not_true_eq_false, toIntK, List.length_set, Nat.reduceMul, Bool.not_eq_true, Bool.not_eq_false, List.all_cons, List.all_nil, exps, fillL, buildK, strK, nilcK, fnK, callVT, List.size_toArray, List.append_nil, List.singleton_append, boxOK, newOK, scal_nil, List.isEmpty_nil, List.isEmpty_cons, mkVK, mkOK, mkCells, zeros_0, zeros_1, zeros_2, zeros_3, zeros_4, List.map_cons, List.map_nil, c1, h0, h4, h5, lenTK]
    rotate_left
    · exact ⟨hH, nono (.inr (by have := of_decide_eq_false c1; omega))⟩
    refine brT.intro (fun c2 => ?_) (fun c2 => ?_) <;> simp only [go_nil, go_blk, go_skip, go_ret, go_exit, go_seq, go_block, go_reg, go_r0, go_r, go_d0, go_d, go_e0, go_e, box2, Option.isSome_some, Nat.le_refl, go_cond, go_o, go_g, aft_some, cnd_bool, grd_bool, grd_tup, brT_true, brT_false, brT_not, thr_exit, thr_c, thr_nil, stp, stepK, movK, mv1, ex, exv, exvs, upd_some, upd_none, ini, St.val, binK, binV, ofV, pickK, unK, unV, beqK, beq_true, beq_false, if_true, if_false, List.getElem?_cons_zero, List.getElem?_cons_succ, ↓reduceIte, Nat.reduceEqDiff, reduceCtorEq, loadK, adr, deref, Ad.fv, Ad.live, fadrK, List.length_cons, List.length_nil, List.drop_zero, List.drop_succ_cons, List.take_succ_cons, List.take_zero, Nat.reduceAdd, Nat.reduceLeDiff, Nat.zero_add, Nat.add_zero, aeqK, agEq, scEq, boxVK, newVK, exc, vc_agg, vc_int, vc_bool, vc_str, vc_ptr, vc_sl, vc_fn, boxOf, adInf, List.reverse_cons, List.reverse_nil, List.nil_append, List.cons_append, extK, Bool.and_true, Bool.true_and, Bool.not_true, Bool.not_false, resT, resVs, resV, true_and, and_true, storeK, spl_nil, spl_z, spl_1, spl_2, spl_3, spl_4, spl_5, spl_6, spl_7, spl_8, scal_int, scal_bool, scal_str, scal_nil, implies_true, Bool.and_self, Post_ret, Post_normal, PostS_ret, PostS_normal, retT_true, retT_false, flat_bool, flat_int, flat_str, List.take_length, decide_true, decide_false, Option.some.injEq, Value.bool.injEq, Value.int.injEq, Bool.false_and, Bool.and_false, not_false_eq_true, not_true_eq_false, toIntK, List.length_set, Nat.reduceMul, Bool.not_eq_true, Bool.not_eq_false, List.all_cons, List.all_nil, exps, fillL, buildK, strK, nilcK, fnK, callVT, List.size_toArray, List.append_nil, List.singleton_append, boxOK, newOK, scal_nil, List.isEmpty_nil, List.isEmpty_cons, mkVK, mkOK, mkCells, zeros_0, zeros_1, zeros_2, zeros_3, zeros_4, List.map_cons, List.map_nil, c1, c2, h0, h4, h5]
    rotate_left
    · exact ⟨hH, nono (.inl (by have := of_decide_eq_false c2; omega))⟩
    have hi7 : i < 7 := by have := of_decide_eq_true c2; omega
    have his : i < s.size := by have := of_decide_eq_true c1; omega
    obtain ⟨c, hc⟩ := byte_at his
    have hix := fun {t : St} {x y : X} => idx_at (s := t) (x := x) (y := y) hc
    have hcb : c.toNat < 256 := c.toNat_lt
    have t1 := and7u hcb
    have t2 : IntKind.i64.wrap (((c.toNat % 128 : Nat) : Int)) = ((c.toNat % 128 : Nat) : Int) := wrap64 _ (by omega) (by omega)
    have t3 : IntKind.i64.wrap (7 * (i : Int)) = ((7 * i : Nat) : Int) := by rw [wrap64 _ (by omega) (by omega)]; omega
    have t3n : ¬ (((7 * i : Nat) : Int) < 0) := by omega
    have t4 := shl7 (d := c.toNat % 128) (i := i) (by omega) (by omega)
    have t5 := orHi (valB_lt s i) (show c.toNat % 128 < 128 by omega) (show i ≤ 6 by omega)
    have hvs := valB_succ hc
    rw [← hvs] at t5
    have hvm := valB_max s (k := i + 1) (by omega)
    simp only [go_nil, go_blk, go_skip, go_ret, go_exit, go_seq, go_block, go_reg, go_r0, go_r, go_d0, go_d, go_e0, go_e, box2, Option.isSome_some, Nat.le_refl, go_cond, go_o, go_g, aft_some, cnd_bool, grd_bool, grd_tup, brT_true, brT_false, brT_not, thr_exit, thr_c, thr_nil, stp, stepK, movK, mv1, ex, exv, exvs, upd_some, upd_none, ini, St.val, binK, binV, ofV, pickK, unK, unV, beqK, beq_true, beq_false, if_true, if_false, List.getElem?_cons_zero, List.getElem?_cons_succ, ↓reduceIte, Nat.reduceEqDiff, reduceCtorEq, loadK, adr, deref, Ad.fv, Ad.live, fadrK, List.length_cons, List.length_nil, List.drop_zero, List.drop_succ_cons, List.take_succ_cons, List.take_zero, Nat.reduceAdd, Nat.reduceLeDiff, Nat.zero_add, Nat.add_zero, aeqK, agEq, scEq, boxVK, newVK, exc, vc_agg, vc_int, vc_bool, vc_str, vc_ptr, vc_sl, vc_fn, boxOf, adInf, List.reverse_cons, List.reverse_nil, List.nil_append, List.cons_append, extK, Bool.and_true, Bool.true_and, Bool.not_true, Bool.not_false, resT, resVs, resV, true_and, and_true, storeK, spl_nil, spl_z, spl_1, spl_2, spl_3, spl_4, spl_5, spl_6, spl_7, spl_8, scal_int, scal_bool, scal_str, scal_nil, implies_true, Bool.and_self, Post_ret, Post_normal, PostS_ret, PostS_normal, retT_true, retT_false, flat_bool, flat_int, flat_str, List.take_length, decide_true, decide_false, Option.some.injEq, Value.bool.injEq, Value.int.injEq, Bool.false_and, Bool.and_false, not_false_eq_true, not_true_eq_false, toIntK, List.length_set, Nat.reduceMul, Bool.not_eq_true, Bool.not_eq_false, List.all_cons, List.all_nil, exps, fillL, buildK, strK, nilcK, fnK, callVT, List.size_toArray, List.append_nil, List.singleton_append, boxOK, newOK, scal_nil, List.isEmpty_nil, List.isEmpty_cons, mkVK, mkOK, mkCells, zeros_0, zeros_1, zeros_2, zeros_3, zeros_4, List.map_cons, List.map_nil, h0, h4, h5, hix, t1, t2, t3, t3n, t4, t5]
    refine brT.intro (fun c3 => ?_) (fun c3 => ?_) <;> simp only [go_nil, go_blk, go_skip, go_ret, go_exit, go_seq, go_block, go_reg, go_r0, go_r, go_d0, go_d, go_e0, go_e, box2, Option.isSome_some, Nat.le_refl, go_cond, go_o, go_g, aft_some, cnd_bool, grd_bool, grd_tup, brT_true, brT_false, brT_not, thr_exit, thr_c, thr_nil, stp, stepK, movK, mv1, ex, exv, exvs, upd_some, upd_none, ini, St.val, binK, binV, ofV, pickK, unK, unV, beqK, beq_true, beq_false, if_true, if_false, List.getElem?_cons_zero, List.getElem?_cons_succ, ↓reduceIte, Nat.reduceEqDiff, reduceCtorEq, loadK, adr, deref, Ad.fv, Ad.live, fadrK, List.length_cons, List.length_nil, List.drop_zero, List.drop_succ_cons, List.take_succ_cons, List.take_zero, Nat.reduceAdd, Nat.reduceLeDiff, Nat.zero_add, Nat.add_zero, aeqK, agEq, scEq, boxVK, newVK, exc, vc_agg, vc_int, vc_bool, vc_str, vc_ptr, vc_sl, vc_fn, boxOf, adInf, List.reverse_cons, List.reverse_nil, List.nil_append, List.cons_append, extK, Bool.and_true, Bool.true_and, Bool.not_true, Bool.not_false, resT, resVs, resV, true_and, and_true, storeK, spl_nil, spl_z, spl_1, spl_2, spl_3, spl_4, spl_5, spl_6, spl_7, spl_8, scal_int, scal_bool, scal_str, scal_nil, implies_true, Bool.and_self, Post_ret, Post_normal, PostS_ret, PostS_normal, retT_true, retT_false, flat_bool, flat_int, flat_str, List.take_length, decide_true, decide_false, Option.some.injEq, Value.bool.injEq, Value.int.injEq, Bool.false_and, Bool.and_false, not_false_eq_true, not_true_eq_false, toIntK, List.length_set, Nat.reduceMul, Bool.not_eq_true, Bool.not_eq_false, List.all_cons, List.all_nil, exps, fillL, buildK, strK, nilcK, fnK, callVT, List.size_toArray, List.append_nil, List.singleton_append, boxOK, newOK, scal_nil, List.isEmpty_nil, List.isEmpty_cons, mkVK, mkOK, mkCells, zeros_0, zeros_1, zeros_2, zeros_3, zeros_4, List.map_cons, List.map_nil, c3, h0, h4, h5, wrap64 ((i : Int) + 1) (by omega) (by omega)]
    · have hlt : c.toNat < 128 := by have := of_decide_eq_true c3; omega
      have a172 := fun {m draw t d ts Q} => callT_at (m := m) (draw := draw) (s := t) (d := d) (ts := ts) (Q := Q) (f172 (H := t.H) (n := ((valB s (i + 1) : Nat) : Int)))
      have hsl : ∀ {t : St} {x y : X}, exv t.ρ x = some (.string s) → exv t.ρ y = some (.int .i64 ((i : Int) + 1)) → slcSK t x none (some y) = some (.val (.string (s.extract 0 (i + 1))), t) := fun {t x y} hx hy => slc_to (k := i + 1) (by omega) hx (by rw [hy]; rfl)
      have wt := hw.pre hH
      refine go_draw ?_
      simp only [go_nil, go_blk, go_skip, go_ret, go_exit, go_seq, go_block, go_reg, go_r0, go_r, go_d0, go_d, go_e0, go_e, box2, Option.isSome_some, Nat.le_refl, go_cond, go_o, go_g, aft_some, cnd_bool, grd_bool, grd_tup, brT_true, brT_false, brT_not, thr_exit, thr_c, thr_nil, stp, stepK, movK, mv1, ex, exv, exvs, upd_some, upd_none, ini, St.val, binK, binV, ofV, pickK, unK, unV, beqK, beq_true, beq_false, if_true, if_false, List.getElem?_cons_zero, List.getElem?_cons_succ, ↓reduceIte, Nat.reduceEqDiff, reduceCtorEq, loadK, adr, deref, Ad.fv, Ad.live, fadrK, List.length_cons, List.length_nil, List.drop_zero, List.drop_succ_cons, List.take_succ_cons, List.take_zero, Nat.reduceAdd, Nat.reduceLeDiff, Nat.zero_add, Nat.add_zero, aeqK, agEq, scEq, boxVK, newVK, exc, vc_agg, vc_int, vc_bool, vc_str, vc_ptr, vc_sl, vc_fn, boxOf, adInf, List.reverse_cons, List.reverse_nil, List.nil_append, List.cons_append, extK, Bool.and_true, Bool.true_and, Bool.not_true, Bool.not_false, resT, resVs, resV, true_and, and_true, storeK, spl_nil, spl_z, spl_1, spl_2, spl_3, spl_4, spl_5, spl_6, spl_7, spl_8, scal_int, scal_bool, scal_str, scal_nil, implies_true, Bool.and_self, Post_ret, Post_normal, PostS_ret, PostS_normal, retT_true, retT_false, flat_bool, flat_int, flat_str, List.take_length, decide_true, decide_false, Option.some.injEq, Value.bool.injEq, Value.int.injEq, Bool.false_and, Bool.and_false, not_false_eq_true, not_true_eq_false, toIntK, List.length_set, Nat.reduceMul, Bool.not_eq_true, Bool.not_eq_false, List.all_cons, List.all_nil, exps, fillL, buildK, strK, nilcK, fnK, callVT, List.size_toArray, List.append_nil, List.singleton_append, boxOK, newOK, scal_nil, List.isEmpty_nil, List.isEmpty_cons, mkVK, mkOK, mkCells, zeros_0, zeros_1, zeros_2, zeros_3, zeros_4, List.map_cons, List.map_nil, h0, h4, h5, a172, wt, hsl, wrap64 ((i : Int) + 1) (by omega) (by omega)]
      refine ⟨by rfl, ?_⟩
      refine brT.intro (fun c4 => ?_) (fun c4 => ?_) <;> simp only [go_nil, go_blk, go_skip, go_ret, go_exit, go_seq, go_block, go_reg, go_r0, go_r, go_d0, go_d, go_e0, go_e, box2, Option.isSome_some, Nat.le_refl, go_cond, go_o, go_g, aft_some, cnd_bool, grd_bool, grd_tup, brT_true, brT_false, brT_not, thr_exit, thr_c, thr_nil, stp, stepK, movK, mv1, ex, exv, exvs, upd_some, upd_none, ini, St.val, binK, binV, ofV, pickK, unK, unV, beqK, beq_true, beq_false, if_true, if_false, List.getElem?_cons_zero, List.getElem?_cons_succ, ↓reduceIte, Nat.reduceEqDiff, reduceCtorEq, loadK, adr, deref, Ad.fv, Ad.live, fadrK, List.length_cons, List.length_nil, List.drop_zero, List.drop_succ_cons, List.take_succ_cons, List.take_zero, Nat.reduceAdd, Nat.reduceLeDiff, Nat.zero_add, Nat.add_zero, aeqK, agEq, scEq, boxVK, newVK, exc, vc_agg, vc_int, vc_bool, vc_str, vc_ptr, vc_sl, vc_fn, boxOf, adInf, List.reverse_cons, List.reverse_nil, List.nil_append, List.cons_append, extK, Bool.and_true, Bool.true_and, Bool.not_true, Bool.not_false, resT, resVs, resV, true_and, and_true, storeK, spl_nil, spl_z, spl_1, spl_2, spl_3, spl_4, spl_5, spl_6, spl_7, spl_8, scal_int, scal_bool, scal_str, scal_nil, implies_true, Bool.and_self, Post_ret, Post_normal, PostS_ret, PostS_normal, retT_true, retT_false, flat_bool, flat_int, flat_str, List.take_length, decide_true, decide_false, Option.some.injEq, Value.bool.injEq, Value.int.injEq, Bool.false_and, Bool.and_false, not_false_eq_true, not_true_eq_false, toIntK, List.length_set, Nat.reduceMul, Bool.not_eq_true, Bool.not_eq_false, List.all_cons, List.all_nil, exps, fillL, buildK, strK, nilcK, fnK, callVT, List.size_toArray, List.append_nil, List.singleton_append, boxOK, newOK, scal_nil, List.isEmpty_nil, List.isEmpty_cons, mkVK, mkOK, mkCells, zeros_0, zeros_1, zeros_2, zeros_3, zeros_4, List.map_cons, List.map_nil, h0, h4, h5, wrap64 ((i : Int) + 1) (by omega) (by omega)]
      · have hv0 := of_decide_eq_true c4
        have hv : isV s (i + 1) := hv0
        have hr : readV s (valB s (i + 1)) (i + 1) := ⟨by omega, by omega, by omega, rfl, hv⟩
        rw [rdV_eq hr]
        exact ⟨rfl, pre_take hH⟩
      · have hv0 := of_decide_eq_false c4
        have hv : ¬ isV s (i + 1) := hv0
        have hn : ∀ n k, ¬ readV s n k := fun n k hr => by
          obtain ⟨r1, r2, r3, r4, r5⟩ := hr
          have hb2 := isV_bits r1 r3 r5
          rcases Nat.lt_trichotomy k (i + 1) with e | e | e
          · obtain ⟨b, hb3⟩ := byte_at (b := s) (i := k - 1) (by omega)
            have h1 := hb2.2 b hb3
            have h2 := hb (k - 1) b (by omega) hb3
            omega
          · subst e; exact hv r5
          · have := hb2.1 i c (by omega) hc
            omega
        rw [rdV_none hn]
        exact ⟨rfl, pre_take hH⟩
    · have hge : 128 ≤ c.toNat := by have := of_decide_eq_false c3; omega
      refine ⟨hi7, hH, by simp, by omega, fun k b hk hkb => ?_⟩
      by_cases e : k = i
      · subst e
        rw [hc] at hkb
        cases hkb
        exact hge
      · exact hb k b (by omega) hkb
  · rintro t ⟨hH, hn⟩
    simp only [go_nil, go_blk, go_skip, go_ret, go_exit, go_seq, go_block, go_reg, go_r0, go_r, go_d0, go_d, go_e0, go_e, box2, Option.isSome_some, Nat.le_refl, go_cond, go_o, go_g, aft_some, cnd_bool, grd_bool, grd_tup, brT_true, brT_false, brT_not, thr_exit, thr_c, thr_nil, stp, stepK, movK, mv1, ex, exv, exvs, upd_some, upd_none, ini, St.val, binK, binV, ofV, pickK, unK, unV, beqK, beq_true, beq_false, if_true, if_false, List.getElem?_cons_zero, List.getElem?_cons_succ, ↓reduceIte, Nat.reduceEqDiff, reduceCtorEq, loadK, adr, deref, Ad.fv, Ad.live, fadrK, List.length_cons, List.length_nil, List.drop_zero, List.drop_succ_cons, List.take_succ_cons, List.take_zero, Nat.reduceAdd, Nat.reduceLeDiff, Nat.zero_add, Nat.add_zero, aeqK, agEq, scEq, boxVK, newVK, exc, vc_agg, vc_int, vc_bool, vc_str, vc_ptr, vc_sl, vc_fn, boxOf, adInf, List.reverse_cons, List.reverse_nil, List.nil_append, List.cons_append, extK, Bool.and_true, Bool.true_and, Bool.not_true, Bool.not_false, resT, resVs, resV, true_and, and_true, storeK, spl_nil, spl_z, spl_1, spl_2, spl_3, spl_4, spl_5, spl_6, spl_7, spl_8, scal_int, scal_bool, scal_str, scal_nil, implies_true, Bool.and_self, Post_ret, Post_normal, PostS_ret, PostS_normal, retT_true, retT_false, flat_bool, flat_int, flat_str, List.take_length, decide_true, decide_false, Option.some.injEq, Value.bool.injEq, Value.int.injEq, Bool.false_and, Bool.and_false, not_false_eq_true, not_true_eq_false, toIntK, List.length_set, Nat.reduceMul, Bool.not_eq_true, Bool.not_eq_false, List.all_cons, List.all_nil, exps, fillL, buildK, strK, nilcK, fnK, callVT, List.size_toArray, List.append_nil, List.singleton_append, boxOK, newOK, scal_nil, List.isEmpty_nil, List.isEmpty_cons, mkVK, mkOK, mkCells, zeros_0, zeros_1, zeros_2, zeros_3, zeros_4, List.map_cons, List.map_nil]
    rw [rdV_none hn]
    exact ⟨rfl, pre_take hH⟩
end Go.Proofs.YtglboiahgpfjdaaGreat.Ev

/- Terms: the program's way. -/
namespace Go.Proofs.YtglboiahgpfjdaaGreat.Ev
set_option linter.all false
open Go
set_option maxRecDepth 4000

def isKey (k : Int) : Bool := decide (k ≥ 1) && decide (k ≤ 1000000)
theorem c110x {m : Md} {draw : Bool} {s : St} {d : Option Nat} {ts : List Tk} {Q : Ex → St → Prop} {a : Int} (hw : Wr m s.H) :
    callT EE m draw 110 (some [.int .i64 a]) s d ts Q = go EE m ts { s with ρ := upd s.ρ d (.val (.bool (isKey a))) } Q := c110' hw
/-- The number at a place; -1 without one. -/
noncomputable def vaN (s : ByteArray) (a : Nat) : Int := if (rdV (rest s a)).2 = 0 then -1 else ((rdV (rest s a)).1 : Nat)
theorem f142 {H : Hp} {s : ByteArray} {a : Nat} (hs : s.size ≤ 4611686018427387904) (ha : a ≤ s.size) : Scal EE 142 [.string s, .int .i64 a] H (.tuple #[.int .i64 (vaN s a), .int .i64 ((a + (rdV (rest s a)).2 : Nat) : Int)]) := by
  refine scal_ok rfl rfl k142 (by simp [c142]) rfl fun m hw => ?_
  have hsl := fun {t : St} {x y : X} => slc_rest (s := t) (x := x) (y := y) ha
  have hrs := rest_size s a
  have hr := rdV_le (rest s a)
  have a161 := fun {m draw t d ts Q} => callT_at (m := m) (draw := draw) (s := t) (d := d) (ts := ts) (Q := Q) (f161 (H := H) (s := rest s a) (by omega))
  simp only [go_sem, ↓reduceIte, Nat.reduceEqDiff, reduceCtorEq, Nat.reduceAdd, Nat.reduceLeDiff, Nat.reduceMul, c142, hsl, a161, hw, List.getElem?_toArray, ofV]
  refine brT.intro (fun h => ?_) (fun h => ?_) <;> simp only [go_sem, ↓reduceIte, Nat.reduceEqDiff, reduceCtorEq, Nat.reduceAdd, Nat.reduceLeDiff, Nat.reduceMul, wrap64 ((a : Int) + (((rdV (rest s a)).2 : Nat) : Int)) (by omega) (by omega)]
  · have h0 : (rdV (rest s a)).2 = 0 := by have := of_decide_eq_true h; omega
    unfold vaN
    rw [if_pos h0, h0]
    rfl
  · have h0 : ¬ (rdV (rest s a)).2 = 0 := by have := of_decide_eq_false h; omega
    unfold vaN
    rw [if_neg h0]
    rfl

def encT : Option Nat → Int
  | some e => (e : Int)
  | none => -1

theorem itr_none {f : Nat → Option Nat} : ∀ {i n e : Nat}, i ≤ n → itr f i e = none → itr f n e = none := fun {i n e} h hn => by
  induction n with
  | zero =>
    have : i = 0 := by omega
    subst this
    exact hn
  | succ n ih =>
    by_cases h2 : i = n + 1
    · subst h2; exact hn
    · rw [itr_succ, ih (by omega)]

theorem ch_eq {c : UInt8} {n : Nat} (h : n < 256) : ((c.toNat : Nat) : Int) = (n : Int) ↔ c = UInt8.ofNat n := by
  constructor
  · intro h2
    have h3 : c.toNat = n := by omega
    rw [← h3]
    simp
  · rintro rfl
    simp
    omega

theorem f120 {s : ByteArray} (hs : s.size ≤ 4611686018427387904) : ∀ (d : Nat), d ≤ 8 → ∀ {H : Hp} {a : Nat}, a ≤ 4611686018427387904 → Scal EE 120 [.string s, .int .i64 a, .int .i64 d] H (.int .i64 (encT (tmE s d a)))
  | 0, _, H, a, ha => by
    refine scal_ok rfl rfl k120 (by simp [c120]) rfl fun m hw => ?_
    simp only [go_sem, ↓reduceIte, Nat.reduceEqDiff, reduceCtorEq, Nat.reduceAdd, Nat.reduceLeDiff, Nat.reduceMul, c120, lenTK]
    refine brT.intro (fun h => ?_) (fun h => ?_) <;> simp only [go_sem, ↓reduceIte, Nat.reduceEqDiff, reduceCtorEq, Nat.reduceAdd, Nat.reduceLeDiff, Nat.reduceMul, h]
    · rfl
    · have hz : decide (((0 : Nat) : Int) < 1) = true := rfl
      simp only [go_sem, ↓reduceIte, Nat.reduceEqDiff, reduceCtorEq, Nat.reduceAdd, Nat.reduceLeDiff, Nat.reduceMul, hz]
      rfl
  | d + 1, hd, H, a, ha => by
    have ih : ∀ {H : Hp} {a : Nat}, a ≤ 4611686018427387904 → Scal EE 120 [.string s, .int .i64 a, .int .i64 d] H (.int .i64 (encT (tmE s d a))) := fun {H a} h => f120 hs d (by omega) h
    refine scal_ok rfl rfl k120 (by simp [c120]) rfl fun m hw => ?_
    have hz : decide (((d + 1 : Nat) : Int) < 1) = false := decide_eq_false (by omega)
    simp only [go_sem, ↓reduceIte, Nat.reduceEqDiff, reduceCtorEq, Nat.reduceAdd, Nat.reduceLeDiff, Nat.reduceMul, c120, lenTK]
    refine brT.intro (fun h => ?_) (fun h => ?_) <;> simp only [go_sem, ↓reduceIte, Nat.reduceEqDiff, reduceCtorEq, Nat.reduceAdd, Nat.reduceLeDiff, Nat.reduceMul, h, hz]
    · have hn : s[a]? = none := getElem?_neg s a (by show ¬ a < s.size; have := of_decide_eq_true h; omega)
      rw [tmE, tmStep, hn]
      rfl
    have hal : a < s.size := by have := of_decide_eq_false h; omega
    obtain ⟨c, hc⟩ := byte_at hal
    have hix := fun {t : St} {x y : X} => idx_at (s := t) (x := x) (y := y) hc
    have a142 := fun {m draw t d ts Q} => callT_at (m := m) (draw := draw) (s := t) (d := d) (ts := ts) (Q := Q) (f142 (H := H) (a := a + 1) hs (by omega))
    have e1 : ((a + 1 : Nat) : Int) = (a : Int) + 1 := by omega
    rw [e1] at a142
    have hr := rdV_le (rest s (a + 1))
    rw [rest_size] at hr
    have hT : tmE s (d + 1) a = tmStep s (tmE s d) a := rfl
    rw [hT, tmStep, hc]
    simp only
    have hN : vaN s (a + 1) = if (rdV (rest s (a + 1))).2 = 0 then -1 else ((rdV (rest s (a + 1))).1 : Int) := rfl
    generalize vaN s (a + 1) = N at hN a142
    generalize hp : rdV (rest s (a + 1)) = p at *
    obtain ⟨n, k⟩ := p
    simp only at hN hr a142 ⊢
    have dd : ∀ q : Nat, q < 256 → decide (((c.toNat : Nat) : Int) = (q : Int)) = decide (c = UInt8.ofNat q) := fun q hq => by rw [Bool.eq_iff_iff]; simp only [decide_eq_true_eq]; exact ch_eq hq
    have d97 : decide (((c.toNat : Nat) : Int) = 97) = decide (c = 97) := dd 97 (by decide)
    have d107 : decide (((c.toNat : Nat) : Int) = 107) = decide (c = 107) := dd 107 (by decide)
    have d108 : decide (((c.toNat : Nat) : Int) = 108) = decide (c = 108) := dd 108 (by decide)
    have d115 : decide (((c.toNat : Nat) : Int) = 115) = decide (c = 115) := dd 115 (by decide)
    have w1 : IntKind.i64.wrap ((a : Int) + 1) = (a : Int) + 1 := wrap64 _ (by omega) (by omega)
    have hNb : -1 ≤ N ∧ N ≤ 562949953421311 := by rw [hN]; split <;> omega
    have wd : IntKind.i64.wrap (((d + 1 : Nat) : Int) - 1) = (d : Int) := by rw [wrap64 _ (by omega) (by omega)]; omega
    simp only [go_sem, ↓reduceIte, Nat.reduceEqDiff, reduceCtorEq, Nat.reduceAdd, Nat.reduceLeDiff, Nat.reduceMul, hix, a142, hw, w1, List.getElem?_toArray, ofV, d97]
    have hNn : ¬ k = 0 → N = (n : Int) := fun h => by rw [hN, if_neg h]
    have hN0 : k = 0 → N = -1 := fun h => by rw [hN, if_pos h]
    refine brT.intro (fun h97 => ?_) (fun h97 => ?_) <;> simp only [go_sem, ↓reduceIte, Nat.reduceEqDiff, reduceCtorEq, Nat.reduceAdd, Nat.reduceLeDiff, Nat.reduceMul, d97, d107, c82x, hw, hix]
    · have h97 : c = 97 := of_decide_eq_true h97
      refine brT.intro (fun q1 => ?_) (fun q1 => ?_) <;> simp only [go_sem, ↓reduceIte, Nat.reduceEqDiff, reduceCtorEq, Nat.reduceAdd, Nat.reduceLeDiff, Nat.reduceMul, q1, lenTK, wrap64 ((s.size : Int) - ((a + 1 + k : Nat) : Int)) (by omega) (by omega)]
      · have q1' : 0 ≤ N ∧ N ≤ 40 := by simpa using q1
        have hk : ¬ k = 0 := fun e => by have := hN0 e; omega
        have hn := hNn hk
        refine brT.intro (fun q2 => ?_) (fun q2 => ?_) <;> simp only [go_sem, ↓reduceIte, Nat.reduceEqDiff, reduceCtorEq, Nat.reduceAdd, Nat.reduceLeDiff, Nat.reduceMul, q1, wrap64 (((a + 1 + k : Nat) : Int) + N) (by omega) (by omega)]
        · have q2' := of_decide_eq_true q2
          rw [if_neg hk, if_pos h97, if_neg (by omega)]
          rfl
        · have q2' := of_decide_eq_false q2
          rw [if_neg hk, if_pos h97, if_pos (by omega)]
          simp only [encT]
          omega
      · have q1' : ¬ (0 ≤ N ∧ N ≤ 40) := by simpa using q1
        by_cases hk : k = 0
        · rw [if_pos hk]; rfl
        · have hn := hNn hk
          rw [if_neg hk, if_pos h97, if_neg (by omega)]
          rfl
    have h97 : ¬ c = 97 := of_decide_eq_false h97
    refine brT.intro (fun h107 => ?_) (fun h107 => ?_) <;> simp only [go_sem, ↓reduceIte, Nat.reduceEqDiff, reduceCtorEq, Nat.reduceAdd, Nat.reduceLeDiff, Nat.reduceMul, d107, d108, c110x, hw, hix]
    · have h107 : c = 107 := of_decide_eq_true h107
      refine brT.intro (fun q1 => ?_) (fun q1 => ?_) <;> simp only [go_sem, ↓reduceIte, Nat.reduceEqDiff, reduceCtorEq, Nat.reduceAdd, Nat.reduceLeDiff, Nat.reduceMul]
      · have q1' : 1 ≤ N ∧ N ≤ 1000000 := by simpa [isKey] using q1
        have hk : ¬ k = 0 := fun e => by have := hN0 e; omega
        have hn := hNn hk
        rw [if_neg hk, if_neg h97, if_pos h107, if_pos (by omega)]
        rfl
      · have q1' : ¬ (1 ≤ N ∧ N ≤ 1000000) := by simpa [isKey] using q1
        by_cases hk : k = 0
        · rw [if_pos hk]; rfl
        · have hn := hNn hk
          rw [if_neg hk, if_neg h97, if_pos h107, if_neg (by omega)]
          rfl
    have h107 : ¬ c = 107 := of_decide_eq_false h107
    refine brT.intro (fun h108 => ?_) (fun h108 => ?_) <;> simp only [go_sem, ↓reduceIte, Nat.reduceEqDiff, reduceCtorEq, Nat.reduceAdd, Nat.reduceLeDiff, Nat.reduceMul, d108, d115, c82x, hw, hix]
    · have h108 : c = 108 := of_decide_eq_true h108
      refine brT.intro (fun q1 => ?_) (fun q1 => ?_) <;> simp only [go_sem, ↓reduceIte, Nat.reduceEqDiff, reduceCtorEq, Nat.reduceAdd, Nat.reduceLeDiff, Nat.reduceMul]
      · have q1' : 0 ≤ N ∧ N ≤ 12 := by simpa using q1
        have hk : ¬ k = 0 := fun e => by have := hN0 e; omega
        have hn := hNn hk
        rw [if_neg hk, if_neg h97, if_neg h107, if_pos h108, if_pos (by omega)]
        refine go_for n (fun i t => t.H = H ∧ t.ρ 0 = .val (.string s) ∧ t.ρ 2 = .val (.int .i64 ((d + 1 : Nat) : Int)) ∧ t.ρ 7 = .val (.int .i64 N) ∧ t.ρ 9 = .val (.int .i64 i) ∧ t.ρ 8 = .val (.int .i64 (encT (itr (tmE s d) i (a + 1 + k)))))
          (fun t => t.H = H ∧ t.ρ 8 = .val (.int .i64 (encT (itr (tmE s d) n (a + 1 + k))))) ?_ ?_ ?_
        · exact ⟨rfl, by simp [upd, ini], by simp [upd, ini], by simp [upd], by simp [upd], by simp [upd, itr, encT]⟩
        · rintro i t hi ⟨hH, h0, h2, h7, h9, h8⟩
          simp only [go_sem, ↓reduceIte, Nat.reduceEqDiff, reduceCtorEq, Nat.reduceAdd, Nat.reduceLeDiff, Nat.reduceMul, h0, h2, h7, h8, h9]
          refine brT.intro (fun q2 => ?_) (fun q2 => ?_) <;> simp only [go_sem, ↓reduceIte, Nat.reduceEqDiff, reduceCtorEq, Nat.reduceAdd, Nat.reduceLeDiff, Nat.reduceMul, q2, h0, h2, h7, h8, h9]
          · have hin : i < n := by have := of_decide_eq_true q2; omega
            cases hit : itr (tmE s d) i (a + 1 + k) with
            | none =>
              have : decide (encT none ≥ 0) = false := rfl
              simp only [go_sem, ↓reduceIte, Nat.reduceEqDiff, reduceCtorEq, Nat.reduceAdd, Nat.reduceLeDiff, Nat.reduceMul, this, h0, h2, h7, h8, h9]
              exact ⟨hH, by rw [itr_none (Nat.le_of_lt hin) hit, hit]⟩
            | some e =>
              have he := itr_le (s := s) (f := tmE s d) (fun a e h => tmE_le h) (by omega) hit
              have : decide (encT (some e) ≥ 0) = true := decide_eq_true (by simp [encT])
              have hh8 : t.ρ 8 = .val (.int .i64 (e : Int)) := by rw [h8, hit]; rfl
              have a120 := fun {m draw t d' ts Q} => callT_at (m := m) (draw := draw) (s := t) (d := d') (ts := ts) (Q := Q) (ih (H := H) (a := e) (by omega))
              simp only [go_sem, ↓reduceIte, Nat.reduceEqDiff, reduceCtorEq, Nat.reduceAdd, Nat.reduceLeDiff, Nat.reduceMul, this, h0, h2, h7, hh8, h9, wd, hH, a120, hw, wrap64 ((i : Int) + 1) (by omega) (by omega)]
              refine ⟨hin, by simp, ?_⟩
              rw [itr_succ, hit]
          · have hin : i = n := by have := of_decide_eq_false q2; omega
            subst hin
            exact ⟨hH, rfl⟩
        · rintro t ⟨hH, h8⟩
          simp only [go_sem, ↓reduceIte, Nat.reduceEqDiff, reduceCtorEq, Nat.reduceAdd, Nat.reduceLeDiff, Nat.reduceMul, h8, hH]
      · have q1' : ¬ (0 ≤ N ∧ N ≤ 12) := by simpa using q1
        by_cases hk : k = 0
        · rw [if_pos hk]; rfl
        · have hn := hNn hk
          rw [if_neg hk, if_neg h97, if_neg h107, if_pos h108, if_neg (by omega)]
          rfl
    have h108 : ¬ c = 108 := of_decide_eq_false h108
    refine brT.intro (fun h115 => ?_) (fun h115 => ?_) <;> simp only [go_sem, ↓reduceIte, Nat.reduceEqDiff, reduceCtorEq, Nat.reduceAdd, Nat.reduceLeDiff, Nat.reduceMul, d115, c110x, hw, hix]
    · have h115 : c = 115 := of_decide_eq_true h115
      refine brT.intro (fun q1 => ?_) (fun q1 => ?_) <;> simp only [go_sem, ↓reduceIte, Nat.reduceEqDiff, reduceCtorEq, Nat.reduceAdd, Nat.reduceLeDiff, Nat.reduceMul]
      · have q1' : 1 ≤ N ∧ N ≤ 1000000 := by simpa [isKey] using q1
        have hk : ¬ k = 0 := fun e => by have := hN0 e; omega
        have hn := hNn hk
        have a120 := fun {m draw t d' ts Q} => callT_at (m := m) (draw := draw) (s := t) (d := d') (ts := ts) (Q := Q) (ih (H := H) (a := a + 1 + k) (by omega))
        simp only [go_sem, ↓reduceIte, Nat.reduceEqDiff, reduceCtorEq, Nat.reduceAdd, Nat.reduceLeDiff, Nat.reduceMul, wd, a120, hw]
        rw [if_neg hk, if_neg h97, if_neg h107, if_neg h108, if_pos h115, if_pos (by omega)]
      · have q1' : ¬ (1 ≤ N ∧ N ≤ 1000000) := by simpa [isKey] using q1
        by_cases hk : k = 0
        · rw [if_pos hk]; rfl
        · have hn := hNn hk
          rw [if_neg hk, if_neg h97, if_neg h107, if_neg h108, if_pos h115, if_neg (by omega)]
          rfl
    have h115 : ¬ c = 115 := of_decide_eq_false h115
    by_cases hk : k = 0
    · rw [if_pos hk]; rfl
    · rw [if_neg hk, if_neg h97, if_neg h107, if_neg h108, if_neg h115]
      rfl
end Go.Proofs.YtglboiahgpfjdaaGreat.Ev

/- Terms: the reference's way; what is a term. -/
namespace Go.Proofs.YtglboiahgpfjdaaGreat.Ev
set_option linter.all false
open Go
set_option maxRecDepth 4000

def lenE (a : Nat) : Option Nat → Int
  | some e => (e : Int) - a
  | none => 0

theorem f99 {s : ByteArray} (hs : s.size ≤ 4611686018427387904) : ∀ (d : Nat), d ≤ 8 → ∀ {H : Hp} {a : Nat}, a ≤ 4611686018427387904 → ScalP EE 99 [.string s, .int .i64 a, .int .i64 d] H fun r => ∃ dd : Int, r = .tuple #[.int .i64 (lenE a (tmE s d a)), .int .i64 dd]
  | 0, _, H, a, ha => by
    refine scalP_ok rfl rfl k99 (by simp [c99]) fun m hw => ?_
    simp only [go_sem, ↓reduceIte, Nat.reduceEqDiff, reduceCtorEq, Nat.reduceAdd, Nat.reduceLeDiff, Nat.reduceMul, c99, lenTK]
    refine brT.intro (fun h => ?_) (fun h => ?_) <;> simp only [go_sem, ↓reduceIte, Nat.reduceEqDiff, reduceCtorEq, Nat.reduceAdd, Nat.reduceLeDiff, Nat.reduceMul, h]
    · exact ⟨rfl, 0, rfl⟩
    · have hz : decide (((0 : Nat) : Int) < 1) = true := rfl
      simp only [go_sem, ↓reduceIte, Nat.reduceEqDiff, reduceCtorEq, Nat.reduceAdd, Nat.reduceLeDiff, Nat.reduceMul, hz]
      exact ⟨rfl, 0, rfl⟩
  | d + 1, hd, H, a, ha => by
    have ih : ∀ {H : Hp} {a : Nat}, a ≤ 4611686018427387904 → ScalP EE 99 [.string s, .int .i64 a, .int .i64 d] H fun r => ∃ dd : Int, r = .tuple #[.int .i64 (lenE a (tmE s d a)), .int .i64 dd] := fun {H a} h => f99 hs d (by omega) h
    refine scalP_ok rfl rfl k99 (by simp [c99]) fun m hw => ?_
    have hz : decide (((d + 1 : Nat) : Int) < 1) = false := decide_eq_false (by omega)
    have hT : tmE s (d + 1) a = tmStep s (tmE s d) a := rfl
    rw [hT, tmStep]
    simp only [go_sem, ↓reduceIte, Nat.reduceEqDiff, reduceCtorEq, Nat.reduceAdd, Nat.reduceLeDiff, Nat.reduceMul, c99, lenTK]
    refine brT.intro (fun h => ?_) (fun h => ?_) <;> simp only [go_sem, ↓reduceIte, Nat.reduceEqDiff, reduceCtorEq, Nat.reduceAdd, Nat.reduceLeDiff, Nat.reduceMul, h, hz]
    · have hn : s[a]? = none := getElem?_neg s a (by show ¬ a < s.size; have := of_decide_eq_true h; omega)
      rw [hn]
      exact ⟨rfl, 0, rfl⟩
    have hal : a < s.size := by have := of_decide_eq_false h; omega
    obtain ⟨c, hc⟩ := byte_at hal
    rw [hc]
    simp only
    have hix := fun {t : St} {x y : X} => idx_at (s := t) (x := x) (y := y) hc
    have hrs := rest_size s (a + 1)
    have a140 := fun {m draw t d ts Q} => callT_at (m := m) (draw := draw) (s := t) (d := d) (ts := ts) (Q := Q) (f140 (H := H) (s := rest s (a + 1)) (by omega))
    have hsl : ∀ {t : St} {x y : X}, exv t.ρ x = some (.string s) → exv t.ρ y = some (.int .i64 ((a : Int) + 1)) → slcSK t x (some y) none = some (.val (.string (rest s (a + 1))), t) := fun {t x y} hx hy => slc_rest (k := a + 1) (by omega) hx (by rw [hy]; rfl)
    have hr := rdV_le (rest s (a + 1))
    rw [rest_size] at hr
    generalize hp : rdV (rest s (a + 1)) = p at *
    obtain ⟨n, k⟩ := p
    simp only at hr a140 ⊢
    have dd : ∀ q : Nat, q < 256 → decide (((c.toNat : Nat) : Int) = (q : Int)) = decide (c = UInt8.ofNat q) := fun q hq => by rw [Bool.eq_iff_iff]; simp only [decide_eq_true_eq]; exact ch_eq hq
    have d97 : decide (((c.toNat : Nat) : Int) = 97) = decide (c = 97) := dd 97 (by decide)
    have d107 : decide (((c.toNat : Nat) : Int) = 107) = decide (c = 107) := dd 107 (by decide)
    have d108 : decide (((c.toNat : Nat) : Int) = 108) = decide (c = 108) := dd 108 (by decide)
    have d115 : decide (((c.toNat : Nat) : Int) = 115) = decide (c = 115) := dd 115 (by decide)
    have w1 : IntKind.i64.wrap ((a : Int) + 1) = (a : Int) + 1 := wrap64 _ (by omega) (by omega)
    have w2 : IntKind.i64.wrap ((a : Int) + 1 + (k : Int)) = ((a + 1 + k : Nat) : Int) := by rw [wrap64 _ (by omega) (by omega)]; omega
    have w3 : IntKind.i64.wrap (1 + (k : Int)) = 1 + (k : Int) := wrap64 _ (by omega) (by omega)
    have wd : IntKind.i64.wrap (((d + 1 : Nat) : Int) - 1) = (d : Int) := by rw [wrap64 _ (by omega) (by omega)]; omega
    simp only [go_sem, ↓reduceIte, Nat.reduceEqDiff, reduceCtorEq, Nat.reduceAdd, Nat.reduceLeDiff, Nat.reduceMul, hix, hsl, a140, hw, w1, w2, List.getElem?_toArray, ofV]
    refine brT.intro (fun hk => ?_) (fun hk => ?_) <;> simp only [go_sem, ↓reduceIte, Nat.reduceEqDiff, reduceCtorEq, Nat.reduceAdd, Nat.reduceLeDiff, Nat.reduceMul, hix, w1, w2, d97]
    · have hk : k = 0 := by have := of_decide_eq_true hk; omega
      rw [if_pos hk]
      exact ⟨rfl, 0, rfl⟩
    have hk : ¬ k = 0 := by have := of_decide_eq_false hk; omega
    rw [if_neg hk]
    refine brT.intro (fun h97 => ?_) (fun h97 => ?_) <;> simp only [go_sem, ↓reduceIte, Nat.reduceEqDiff, reduceCtorEq, Nat.reduceAdd, Nat.reduceLeDiff, Nat.reduceMul, d97, d107, c48x, hw, hix, w3]
    · have h97 : c = 97 := of_decide_eq_true h97
      rw [if_pos h97]
      refine brT.intro (fun q1 => ?_) (fun q1 => ?_) <;> simp only [go_sem, ↓reduceIte, Nat.reduceEqDiff, reduceCtorEq, Nat.reduceAdd, Nat.reduceLeDiff, Nat.reduceMul, q1, w3, lenTK, wrap64 ((s.size : Int) - ((a + 1 + k : Nat) : Int)) (by omega) (by omega)]
      · have q1' := of_decide_eq_true q1
        rw [if_neg (by omega)]
        exact ⟨rfl, 0, rfl⟩
      · have q1' := of_decide_eq_false q1
        refine brT.intro (fun q2 => ?_) (fun q2 => ?_) <;> simp only [go_sem, ↓reduceIte, Nat.reduceEqDiff, reduceCtorEq, Nat.reduceAdd, Nat.reduceLeDiff, Nat.reduceMul, q1, w3, wrap64 (1 + (k : Int) + (n : Int)) (by omega) (by omega)]
        · have q2' := of_decide_eq_true q2
          rw [if_neg (by omega)]
          exact ⟨rfl, 0, rfl⟩
        · have q2' := of_decide_eq_false q2
          rw [if_pos (by omega)]
          refine ⟨rfl, 1, ?_⟩
          have : lenE a (some (a + 1 + k + n)) = 1 + (k : Int) + (n : Int) := by simp only [lenE]; omega
          rw [this]
    have h97 : ¬ c = 97 := of_decide_eq_false h97
    rw [if_neg h97]
    refine brT.intro (fun h107 => ?_) (fun h107 => ?_) <;> simp only [go_sem, ↓reduceIte, Nat.reduceEqDiff, reduceCtorEq, Nat.reduceAdd, Nat.reduceLeDiff, Nat.reduceMul, d107, d115, c48x, hw, hix, w3]
    · have h107 : c = 107 := of_decide_eq_true h107
      rw [if_pos h107]
      refine brT.intro (fun q1 => ?_) (fun q1 => ?_) <;> simp only [go_sem, ↓reduceIte, Nat.reduceEqDiff, reduceCtorEq, Nat.reduceAdd, Nat.reduceLeDiff, Nat.reduceMul, w3]
      · have q1' : 1 ≤ (n : Int) ∧ (n : Int) ≤ 1000000 := by simpa using q1
        rw [if_pos (by omega)]
        refine ⟨rfl, 1, ?_⟩
        have : lenE a (some (a + 1 + k)) = 1 + (k : Int) := by simp only [lenE]; omega
        rw [this]
      · have q1' : ¬ (1 ≤ (n : Int) ∧ (n : Int) ≤ 1000000) := by simpa using q1
        rw [if_neg (by omega)]
        exact ⟨rfl, 0, rfl⟩
    have h107 : ¬ c = 107 := of_decide_eq_false h107
    rw [if_neg h107]
    refine brT.intro (fun h115 => ?_) (fun h115 => ?_) <;> simp only [go_sem, ↓reduceIte, Nat.reduceEqDiff, reduceCtorEq, Nat.reduceAdd, Nat.reduceLeDiff, Nat.reduceMul, d115, d108, wd, hix]
    · have h115 : c = 115 := of_decide_eq_true h115
      have h108 : ¬ c = 108 := by rw [h115]; decide
      rw [if_neg h108, if_pos h115]
      refine callT_to (fun m' h => ih (H := H) (a := a + 1 + k) (by omega) m' h) rfl hw fun r1 H1 ⟨⟨dd1, e1⟩, e2⟩ => ?_
      subst e1
      have e2 : H1 = H := e2
      subst e2
      simp only [go_sem, ↓reduceIte, Nat.reduceEqDiff, reduceCtorEq, Nat.reduceAdd, Nat.reduceLeDiff, Nat.reduceMul, List.getElem?_toArray, ofV]
      cases hf : tmE s d (a + 1 + k) with
      | none =>
        have z1 : decide (lenE (a + 1 + k) none = 0) = true := rfl
        simp only [go_sem, ↓reduceIte, Nat.reduceEqDiff, reduceCtorEq, Nat.reduceAdd, Nat.reduceLeDiff, Nat.reduceMul, z1]
        refine ⟨rfl, 0, ?_⟩
        split <;> rfl
      | some e =>
        have he := tmE_le hf
        have z1 : decide (lenE (a + 1 + k) (some e) = 0) = false := decide_eq_false (by simp only [lenE]; omega)
        simp only [go_sem, ↓reduceIte, Nat.reduceEqDiff, reduceCtorEq, Nat.reduceAdd, Nat.reduceLeDiff, Nat.reduceMul, z1, c48x, hw]
        have wl : IntKind.i64.wrap (1 + (k : Int) + lenE (a + 1 + k) (some e)) = 1 + (k : Int) + lenE (a + 1 + k) (some e) := wrap64 _ (by simp only [lenE]; omega) (by simp only [lenE]; omega)
        refine brT.intro (fun q1 => ?_) (fun q1 => ?_) <;> simp only [go_sem, ↓reduceIte, Nat.reduceEqDiff, reduceCtorEq, Nat.reduceAdd, Nat.reduceLeDiff, Nat.reduceMul, z1, q1, w3, wl]
        · have q1' : 1 ≤ (n : Int) ∧ (n : Int) ≤ 1000000 := by simpa using q1
          rw [if_pos (by omega)]
          have : lenE a (some e) = 1 + (k : Int) + lenE (a + 1 + k) (some e) := by simp only [lenE]; omega
          rw [this]
          exact ⟨rfl, _, rfl⟩
        · have q1' : ¬ (1 ≤ (n : Int) ∧ (n : Int) ≤ 1000000) := by simpa using q1
          rw [if_neg (by omega)]
          exact ⟨rfl, 0, rfl⟩
    have h115 : ¬ c = 115 := of_decide_eq_false h115
    refine brT.intro (fun h108 => ?_) (fun h108 => ?_) <;> simp only [go_sem, ↓reduceIte, Nat.reduceEqDiff, reduceCtorEq, Nat.reduceAdd, Nat.reduceLeDiff, Nat.reduceMul, d108, hix]
    rotate_left
    · have h108 : ¬ c = 108 := of_decide_eq_false h108
      rw [if_neg h108, if_neg h115]
      exact ⟨rfl, 0, rfl⟩
    have h108 : c = 108 := of_decide_eq_true h108
    rw [if_pos h108]
    refine brT.intro (fun q1 => ?_) (fun q1 => ?_) <;> simp only [go_sem, ↓reduceIte, Nat.reduceEqDiff, reduceCtorEq, Nat.reduceAdd, Nat.reduceLeDiff, Nat.reduceMul]
    · have q1' := of_decide_eq_true q1
      rw [if_neg (by omega)]
      exact ⟨rfl, 0, rfl⟩
    have q1' := of_decide_eq_false q1
    rw [if_pos (show n ≤ 12 by omega)]
    refine go_for n (fun i t => t.H = H ∧ t.ρ 0 = .val (.string s) ∧ t.ρ 1 = .val (.int .i64 a) ∧ t.ρ 2 = .val (.int .i64 ((d + 1 : Nat) : Int)) ∧ t.ρ 8 = .val (.int .i64 n) ∧ t.ρ 14 = .val (.int .i64 i) ∧ (∃ dp : Int, t.ρ 13 = .val (.int .i64 dp)) ∧ ∃ e : Nat, t.ρ 10 = .val (.int .i64 e) ∧ itr (tmE s d) i (a + 1 + k) = some e)
      (fun t => t.H = H ∧ t.ρ 1 = .val (.int .i64 a) ∧ (∃ dp : Int, t.ρ 13 = .val (.int .i64 dp)) ∧ ∃ e : Nat, t.ρ 10 = .val (.int .i64 e) ∧ itr (tmE s d) n (a + 1 + k) = some e) ?_ ?_ ?_
    · exact ⟨rfl, by simp [upd, ini], by simp [upd, ini], by simp [upd, ini], by simp [upd], by simp [upd], ⟨0, by simp [upd]⟩, a + 1 + k, by simp [upd], rfl⟩
    · rintro i t hi ⟨hH, h0, h1, h2, h8, h14, ⟨dp, h13⟩, e, h10, hit⟩
      have he := itr_le (s := s) (f := tmE s d) (fun a e h => tmE_le h) (by omega) hit
      simp only [go_sem, ↓reduceIte, Nat.reduceEqDiff, reduceCtorEq, Nat.reduceAdd, Nat.reduceLeDiff, Nat.reduceMul, h0, h1, h2, h8, h10, h13, h14]
      refine brT.intro (fun q2 => ?_) (fun q2 => ?_) <;> simp only [go_sem, ↓reduceIte, Nat.reduceEqDiff, reduceCtorEq, Nat.reduceAdd, Nat.reduceLeDiff, Nat.reduceMul, h0, h1, h2, h8, h10, h13, h14, wd]
      · have hin : i < n := by have := of_decide_eq_true q2; omega
        refine callT_to (fun m' h => ih (H := H) (a := e) (by omega) m' h) hH hw fun r1 H1 ⟨⟨dd1, e1⟩, e2⟩ => ?_
        subst e1 e2
        simp only [go_sem, ↓reduceIte, Nat.reduceEqDiff, reduceCtorEq, Nat.reduceAdd, Nat.reduceLeDiff, Nat.reduceMul, h0, h1, h2, h8, h10, h13, h14, List.getElem?_toArray, ofV]
        cases hf : tmE s d e with
        | none =>
          have z1 : decide (lenE e none = 0) = true := rfl
          have hno : itr (tmE s d) n (a + 1 + k) = none := itr_none (i := i + 1) hin (by rw [itr_succ, hit]; exact hf)
          simp only [go_sem, ↓reduceIte, Nat.reduceEqDiff, reduceCtorEq, Nat.reduceAdd, Nat.reduceLeDiff, Nat.reduceMul, z1, h0, h1, h2, h8, h10, h13, h14]
          rw [hno]
          exact ⟨rfl, 0, rfl⟩
        | some e' =>
          have he' := tmE_le hf
          have z1 : decide (lenE e (some e') = 0) = false := decide_eq_false (by simp only [lenE]; omega)
          have z2 : (e : Int) + lenE e (some e') = (e' : Int) := by simp only [lenE]; omega
          simp only [go_sem, ↓reduceIte, Nat.reduceEqDiff, reduceCtorEq, Nat.reduceAdd, Nat.reduceLeDiff, Nat.reduceMul, z1, h0, h1, h2, h8, h10, h13, h14, z2, wrap64 ((e' : Nat) : Int) (by omega) (by omega)]
          refine brT.intro (fun q3 => ?_) (fun q3 => ?_) <;> simp only [go_sem, ↓reduceIte, Nat.reduceEqDiff, reduceCtorEq, Nat.reduceAdd, Nat.reduceLeDiff, Nat.reduceMul, h0, h1, h2, h8, h10, h13, h14, wrap64 ((i : Int) + 1) (by omega) (by omega)]
          · exact ⟨hin, by simp, ⟨_, rfl⟩, e', rfl, by rw [itr_succ, hit]; exact hf⟩
          · exact ⟨hin, by simp, ⟨_, rfl⟩, e', rfl, by rw [itr_succ, hit]; exact hf⟩
      · have hin : i = n := by have := of_decide_eq_false q2; omega
        subst hin
        exact ⟨hH, ⟨_, rfl⟩, e, rfl, hit⟩
    · rintro t ⟨hH, h1, ⟨dp, h13⟩, e, h10, hit⟩
      have he := itr_le (s := s) (f := tmE s d) (fun a e h => tmE_le h) (by omega) hit
      simp only [go_sem, ↓reduceIte, Nat.reduceEqDiff, reduceCtorEq, Nat.reduceAdd, Nat.reduceLeDiff, Nat.reduceMul, h1, h13, h10, hH, wrap64 ((e : Int) - (a : Int)) (by omega) (by omega)]
      rw [hit]
      exact ⟨rfl, _, rfl⟩
end Go.Proofs.YtglboiahgpfjdaaGreat.Ev

/- What is a term; atoms, lists, seals; the law SealHead. -/
namespace Go.Proofs.YtglboiahgpfjdaaGreat.Ev
set_option linter.all false
open Go
set_option maxRecDepth 4000

theorem tmE_8 {s : ByteArray} {e : Nat} (h : tmE s 8 0 = some e) : e ≤ s.size := (tmE_le h).2

theorem f57 {H : Hp} {s : ByteArray} (hs : s.size ≤ 4611686018427387904) : Scal EE 57 [.string s] H (.bool (tOk s)) := by
  refine scal_ok rfl rfl k57 (by simp [c57]) rfl fun m hw => ?_
  simp only [go_sem, ↓reduceIte, Nat.reduceEqDiff, reduceCtorEq, Nat.reduceAdd, Nat.reduceLeDiff, Nat.reduceMul, c57]
  refine callT_to (fun m' h => f99 hs 8 (Nat.le_refl _) (H := H) (a := 0) (by omega) m' h) rfl hw fun r1 H1 ⟨⟨dd1, e1⟩, e2⟩ => ?_
  subst e1
  have e2 : H1 = H := e2
  subst e2
  have key : tOk s = (decide (lenE 0 (tmE s 8 0) > 0) && decide (lenE 0 (tmE s 8 0) = (s.size : Int)) && decide (lenE 0 (tmE s 8 0) ≤ 900)) := by
    rw [Bool.eq_iff_iff, tOk_t]
    simp only [Bool.and_eq_true, decide_eq_true_eq]
    unfold TOk
    cases h : tmE s 8 0 with
    | none => simp [lenE]
    | some e =>
      have := tmE_8 h
      simp only [lenE, Option.some.injEq]
      omega
  rw [key]
  simp only [go_sem, ↓reduceIte, Nat.reduceEqDiff, reduceCtorEq, Nat.reduceAdd, Nat.reduceLeDiff, Nat.reduceMul, List.getElem?_toArray, ofV, lenTK]
  refine brT.intro (fun q1 => ?_) (fun q1 => ?_) <;> simp only [go_sem, ↓reduceIte, Nat.reduceEqDiff, reduceCtorEq, Nat.reduceAdd, Nat.reduceLeDiff, Nat.reduceMul, q1, lenTK]
  refine brT.intro (fun q2 => ?_) (fun q2 => ?_) <;> simp only [go_sem, ↓reduceIte, Nat.reduceEqDiff, reduceCtorEq, Nat.reduceAdd, Nat.reduceLeDiff, Nat.reduceMul, q1, q2, lenTK]

theorem f79 {H : Hp} {s : ByteArray} (hs : s.size ≤ 4611686018427387904) : Scal EE 79 [.string s] H (.bool (tOk s)) := by
  refine scal_ok rfl rfl k79 (by simp [c79]) rfl fun m hw => ?_
  have a120 := fun {m draw t d' ts Q} => callT_at (m := m) (draw := draw) (s := t) (d := d') (ts := ts) (Q := Q) (f120 hs 8 (Nat.le_refl _) (H := H) (a := 0) (by omega))
  have a120 : ∀ {m : Md} {draw : Bool} {t : St} {d' : Option Nat} {ts : List Tk} {Q : Ex → St → Prop}, t.H = H → Wr m H → callT EE m draw 120 (some [.string s, .int .i64 0, .int .i64 8]) t d' ts Q = go EE m ts { t with ρ := upd t.ρ d' (.val (.int .i64 (encT (tmE s 8 0)))) } Q := fun {m draw t d' ts Q} h1 h2 => a120 h1 h2
  have key : tOk s = ((decide ((s.size : Int) ≥ 1) && decide ((s.size : Int) ≤ 900)) && decide (encT (tmE s 8 0) = (s.size : Int))) := by
    rw [Bool.eq_iff_iff, tOk_t]
    simp only [Bool.and_eq_true, decide_eq_true_eq]
    unfold TOk
    cases h : tmE s 8 0 with
    | none => simp [encT]
    | some e => simp only [encT, Option.some.injEq]; omega
  rw [key]
  simp only [go_sem, ↓reduceIte, Nat.reduceEqDiff, reduceCtorEq, Nat.reduceAdd, Nat.reduceLeDiff, Nat.reduceMul, c79, lenTK, c82x, hw]
  refine brT.intro (fun q1 => ?_) (fun q1 => ?_) <;> simp only [go_sem, ↓reduceIte, Nat.reduceEqDiff, reduceCtorEq, Nat.reduceAdd, Nat.reduceLeDiff, Nat.reduceMul, q1, a120, hw, lenTK]

end Go.Proofs.YtglboiahgpfjdaaGreat.Ev

/- What one has taken from a centre: is it right? -/
namespace Go.Proofs.YtglboiahgpfjdaaGreat.Ev
set_option linter.all false
open Go
set_option maxRecDepth 4000

abbrev Cr := Int × Int × Int × Int × Re × ByteArray
noncomputable def crOk (x : Cr) : Bool := inB x.1 0 5 && (inB x.2.1 0 5 && (isF x.2.2.1 && (inB x.2.2.2.1 1 1000000 && (rsOk x.2.2.2.2.1 && tOk x.2.2.2.2.2))))
theorem f59 {H : Hp} {x : Cr} (ht : x.2.2.2.2.2.size ≤ 4611686018427387904) : Scal EE 59 [.agg #[.int .i64 x.1, .int .i64 x.2.1, .int .i64 x.2.2.1, .int .i64 x.2.2.2.1, .int .i64 x.2.2.2.2.1.1, .int .i64 x.2.2.2.2.1.2.1, .int .i64 x.2.2.2.2.1.2.2, .string x.2.2.2.2.2]] H (.bool (crOk x)) := by
  refine scal_ok rfl rfl k59 (by simp [c59]) rfl fun m hw => ?_
  have a101 := fun {m draw s d ts Q} => callT_at (m := m) (draw := draw) (s := s) (d := d) (ts := ts) (Q := Q) (f101 (H := H) (x := x.2.2.2.2.1))
  have a57 := fun {m draw s d ts Q} => callT_at (m := m) (draw := draw) (s := s) (d := d) (ts := ts) (Q := Q) (f57 (H := H) ht)
  simp only [go_sem, ↓reduceIte, Nat.reduceEqDiff, reduceCtorEq, Nat.reduceAdd, Nat.reduceLeDiff, Nat.reduceMul, c59, c61', hw]
  cases q1 : inB x.1 0 5 <;> simp only [go_sem, ↓reduceIte, Nat.reduceEqDiff, reduceCtorEq, Nat.reduceAdd, Nat.reduceLeDiff, Nat.reduceMul, q1, c61', hw]
  · rw [show crOk x = false by unfold crOk; rw [q1]; rfl]
  cases q2 : inB x.2.1 0 5 <;> simp only [go_sem, ↓reduceIte, Nat.reduceEqDiff, reduceCtorEq, Nat.reduceAdd, Nat.reduceLeDiff, Nat.reduceMul, q2, c100', hw]
  · rw [show crOk x = false by unfold crOk; rw [q1, q2]; rfl]
  cases q3 : isF x.2.2.1 <;> simp only [go_sem, ↓reduceIte, Nat.reduceEqDiff, reduceCtorEq, Nat.reduceAdd, Nat.reduceLeDiff, Nat.reduceMul, q3, c48', hw]
  · rw [show crOk x = false by unfold crOk; rw [q1, q2, q3]; rfl]
  cases q4 : inB x.2.2.2.1 1 1000000 <;> simp only [go_sem, ↓reduceIte, Nat.reduceEqDiff, reduceCtorEq, Nat.reduceAdd, Nat.reduceLeDiff, Nat.reduceMul, q4, a101, hw]
  · rw [show crOk x = false by unfold crOk; rw [q1, q2, q3, q4]; rfl]
  cases q5 : rsOk x.2.2.2.2.1 <;> simp only [go_sem, ↓reduceIte, Nat.reduceEqDiff, reduceCtorEq, Nat.reduceAdd, Nat.reduceLeDiff, Nat.reduceMul, q5, a57, hw]
  · rw [show crOk x = false by unfold crOk; rw [q1, q2, q3, q4, q5]; rfl]
  · rw [show crOk x = tOk x.2.2.2.2.2 by unfold crOk; rw [q1, q2, q3, q4, q5]; rfl]
theorem f74 {H : Hp} {x : Cr} (ht : x.2.2.2.2.2.size ≤ 4611686018427387904) (hf : I64 x.2.2.1) : Scal EE 74 [.agg #[.int .i64 x.1, .int .i64 x.2.1, .int .i64 x.2.2.1, .int .i64 x.2.2.2.1, .int .i64 x.2.2.2.2.1.1, .int .i64 x.2.2.2.2.1.2.1, .int .i64 x.2.2.2.2.1.2.2, .string x.2.2.2.2.2]] H (.bool (crOk x)) := by
  refine scal_ok rfl rfl k74 (by simp [c74]) rfl fun m hw => ?_
  have a113 := fun {m draw s d ts Q} => callT_at (m := m) (draw := draw) (s := s) (d := d) (ts := ts) (Q := Q) (f113 (H := H) (x := x.2.2.2.2.1))
  have a79 := fun {m draw s d ts Q} => callT_at (m := m) (draw := draw) (s := s) (d := d) (ts := ts) (Q := Q) (f79 (H := H) ht)
  have a112 := fun {m draw s d ts Q} => callT_at (m := m) (draw := draw) (s := s) (d := d) (ts := ts) (Q := Q) (f112 (H := H) hf)
  simp only [go_sem, ↓reduceIte, Nat.reduceEqDiff, reduceCtorEq, Nat.reduceAdd, Nat.reduceLeDiff, Nat.reduceMul, c74, c111', hw]
  cases q1 : inB x.1 0 5 <;> simp only [go_sem, ↓reduceIte, Nat.reduceEqDiff, reduceCtorEq, Nat.reduceAdd, Nat.reduceLeDiff, Nat.reduceMul, q1, c111', hw]
  · rw [show crOk x = false by unfold crOk; rw [q1]; rfl]
  cases q2 : inB x.2.1 0 5 <;> simp only [go_sem, ↓reduceIte, Nat.reduceEqDiff, reduceCtorEq, Nat.reduceAdd, Nat.reduceLeDiff, Nat.reduceMul, q2, a112, hw]
  · rw [show crOk x = false by unfold crOk; rw [q1, q2]; rfl]
  cases q3 : isF x.2.2.1 <;> simp only [go_sem, ↓reduceIte, Nat.reduceEqDiff, reduceCtorEq, Nat.reduceAdd, Nat.reduceLeDiff, Nat.reduceMul, q3, c110', hw]
  · rw [show crOk x = false by unfold crOk; rw [q1, q2, q3]; rfl]
  cases q4 : inB x.2.2.2.1 1 1000000 <;> simp only [go_sem, ↓reduceIte, Nat.reduceEqDiff, reduceCtorEq, Nat.reduceAdd, Nat.reduceLeDiff, Nat.reduceMul, q4, a113, hw]
  · rw [show crOk x = false by unfold crOk; rw [q1, q2, q3, q4]; rfl]
  cases q5 : rsOk x.2.2.2.2.1 <;> simp only [go_sem, ↓reduceIte, Nat.reduceEqDiff, reduceCtorEq, Nat.reduceAdd, Nat.reduceLeDiff, Nat.reduceMul, q5, a79, hw]
  · rw [show crOk x = false by unfold crOk; rw [q1, q2, q3, q4, q5]; rfl]
  · rw [show crOk x = tOk x.2.2.2.2.2 by unfold crOk; rw [q1, q2, q3, q4, q5]; rfl]
end Go.Proofs.YtglboiahgpfjdaaGreat.Ev

/- A cache: is it right? The reference's way. -/
namespace Go.Proofs.YtglboiahgpfjdaaGreat.Ev
set_option linter.all false
open Go
set_option maxRecDepth 4000

/-- Is the i-th right, and none of those ahead? -/
def seenB (l : List Re) (i : Nat) (x : Re) : Bool := auOk x && !((l.take i).any (eqRe · x))
def ChP (q : Int) (l : List Re) : Prop := inB q (-1) 200000 = true ∧ l.length ≤ 6 ∧ ∀ i, (h : i < l.length) → seenB l i l[i] = true
open Classical in
noncomputable def chOk (q : Int) (l : List Re) : Bool := decide (ChP q l)
theorem ch_t {q : Int} {l : List Re} : chOk q l = true ↔ ChP q l := by unfold chOk; simp
theorem ch_no {q : Int} {l : List Re} (h : ¬ ChP q l) : chOk q l = false := by
  cases h2 : chOk q l with
  | false => rfl
  | true => exact absurd (ch_t.1 h2) h
theorem f60 {H : Hp} {w : Value} {q : Int} {l : List Re} (hl : SlAu H w l) : Scal EE 60 [.agg #[.int .i64 q, w]] H (.bool (chOk q l)) := by
  refine scal_ok rfl rfl k60 (by simp [c60]) rfl fun m hw => ?_
  have hroom := hl.room
  simp only [go_sem, ↓reduceIte, Nat.reduceEqDiff, reduceCtorEq, Nat.reduceAdd, Nat.reduceLeDiff, Nat.reduceMul, c60, c48', hw]
  cases q1 : inB q (-1) 200000 <;> simp only [go_sem, ↓reduceIte, Nat.reduceEqDiff, reduceCtorEq, Nat.reduceAdd, Nat.reduceLeDiff, Nat.reduceMul, q1, hl.len]
  · rw [ch_no fun h => by have := h.1; rw [q1] at this; cases this]
  cases q2 : decide ((l.length : Int) > 6) <;> simp only [go_sem, ↓reduceIte, Nat.reduceEqDiff, reduceCtorEq, Nat.reduceAdd, Nat.reduceLeDiff, Nat.reduceMul, q2]
  rotate_left
  · rw [ch_no fun h => by have := h.2.1; have := of_decide_eq_true q2; omega]
  have h6 : l.length ≤ 6 := by have := of_decide_eq_false q2; omega
  refine go_for l.length (fun i s => s.H = H ∧ (∃ g, s.ρ 1 = .bx g [.int .i64 q, w]) ∧ s.ρ 3 = .val (.int .i64 i) ∧ ∀ j, j < i → (h : j < l.length) → seenB l j l[j] = true)
    (fun s => s.H = H ∧ ∀ j, (h : j < l.length) → seenB l j l[j] = true) (by simp [upd, ini]) ?_ ?_
  · rintro i s hi ⟨hH, ⟨g, k1⟩, k3, hn⟩
    simp only [go_sem, ↓reduceIte, Nat.reduceEqDiff, reduceCtorEq, Nat.reduceAdd, Nat.reduceLeDiff, Nat.reduceMul, k1, k3, hl.len]
    cases c1 : decide ((i : Int) < (l.length : Int)) <;> simp only [go_sem, ↓reduceIte, Nat.reduceEqDiff, reduceCtorEq, Nat.reduceAdd, Nat.reduceLeDiff, Nat.reduceMul, k1, k3, c1]
    · have : i = l.length := by have := of_decide_eq_false c1; omega
      subst this
      exact ⟨hH, fun j h => hn j h h⟩
    have hil : i < l.length := by have := of_decide_eq_true c1; omega
    have w1 := wrap64 ((i : Int) + 1) (by omega) (by omega)
    obtain ⟨id, p, o, ho, hr, hp, hia⟩ := hl.elem (List.getElem?_eq_getElem hil)
    have hr : (o.drop p).take 3 = eRe l[i] := hr
    unfold eRe at hr
    obtain ⟨w', hw', hsl⟩ := hl.take hi
    have a102 := fun {m draw s d ts Q} => callT_at (m := m) (draw := draw) (s := s) (d := d) (ts := ts) (Q := Q) (f102 (H := H) (x := l[i]))
    have a103 := fun {m draw s d ts Q} => callT_at (m := m) (draw := draw) (s := s) (d := d) (ts := ts) (Q := Q) (f103 (x := l[i]) hw')
    have next : seenB l i l[i] = true → ∀ j, j < i + 1 → (h : j < l.length) → seenB l j l[j] = true := fun h j hj hjl => by
      by_cases e : j = i
      · subst e; exact h
      · exact hn j (by omega) hjl
    refine go_draw ?_
    cases qa : auOk l[i] <;> simp only [go_sem, ↓reduceIte, Nat.reduceEqDiff, reduceCtorEq, Nat.reduceAdd, Nat.reduceLeDiff, Nat.reduceMul, k1, k3, hia, hH, ho, hr, hp, a102, hw, qa]
    · refine ⟨by rfl, ?_⟩
      (try simp only [go_sem, ↓reduceIte, Nat.reduceEqDiff, reduceCtorEq, Nat.reduceAdd, Nat.reduceLeDiff, Nat.reduceMul, hH])
      rw [ch_no fun h => by have := h.2.2 i hil; unfold seenB at this; rw [qa] at this; cases this]
    simp only [go_sem, ↓reduceIte, Nat.reduceEqDiff, reduceCtorEq, Nat.reduceAdd, Nat.reduceLeDiff, Nat.reduceMul, k1, k3, hH, hsl, hia, ho, hr, hp, a103, hw]
    refine ⟨by rfl, ?_⟩
    cases qb : (l.take i).any (eqRe · l[i]) <;> simp only [go_sem, ↓reduceIte, Nat.reduceEqDiff, reduceCtorEq, Nat.reduceAdd, Nat.reduceLeDiff, Nat.reduceMul, k1, k3, qb, w1, hH]
    · exact ⟨hil, ⟨_, rfl⟩, by simp, next (by unfold seenB; rw [qa, qb]; rfl)⟩
    · rw [ch_no fun h => by have := h.2.2 i hil; unfold seenB at this; rw [qa, qb] at this; cases this]
  · rintro s ⟨hH, hn⟩
    simp only [go_sem, ↓reduceIte, Nat.reduceEqDiff, reduceCtorEq, Nat.reduceAdd, Nat.reduceLeDiff, Nat.reduceMul, hH]
    rw [ch_t.2 ⟨q1, h6, hn⟩]
end Go.Proofs.YtglboiahgpfjdaaGreat.Ev

/- A cache: is it right? The program's way. -/
namespace Go.Proofs.YtglboiahgpfjdaaGreat.Ev
set_option linter.all false
open Go
set_option maxRecDepth 4000

theorem any_re {l : List Re} {x : Re} : l.any (eqRe x ·) = l.any (eqRe · x) := by
  congr 1
  funext a
  rw [Bool.eq_iff_iff, eqRe_t, eqRe_t]
  exact eq_comm
theorem any_pr {l : List Pr} {x : Pr} : l.any (eqP x ·) = l.any (eqP · x) := by
  congr 1
  funext a
  rw [Bool.eq_iff_iff, eqP_t, eqP_t]
  exact eq_comm
theorem f75 {H : Hp} {w : Value} {q : Int} {l : List Re} (hl : SlAu H w l) : Scal EE 75 [.agg #[.int .i64 q, w]] H (.bool (chOk q l)) := by
  refine scal_ok rfl rfl k75 (by simp [c75]) rfl fun m hw => ?_
  have hroom := hl.room
  simp only [go_sem, ↓reduceIte, Nat.reduceEqDiff, reduceCtorEq, Nat.reduceAdd, Nat.reduceLeDiff, Nat.reduceMul, c75, hl.len]
  refine go_for l.length (fun i s => s.H = H ∧ (∃ g, s.ρ 1 = .bx g [.int .i64 q, w]) ∧ s.ρ 6 = .val w ∧ s.ρ 7 = .val (.int .i64 l.length) ∧ s.ρ 8 = .val (.int .i64 i) ∧ ∀ j, j < i → (h : j < l.length) → seenB l j l[j] = true)
    (fun s => s.H = H ∧ (∃ g, s.ρ 1 = .bx g [.int .i64 q, w]) ∧ ∀ j, (h : j < l.length) → seenB l j l[j] = true) (by simp [upd, ini]) ?_ ?_
  · rintro i s hi ⟨hH, ⟨g, k1⟩, k6, k7, k8, hn⟩
    simp only [go_sem, ↓reduceIte, Nat.reduceEqDiff, reduceCtorEq, Nat.reduceAdd, Nat.reduceLeDiff, Nat.reduceMul, k1, k6, k7, k8]
    cases c1 : decide ((i : Int) < (l.length : Int)) <;> simp only [go_sem, ↓reduceIte, Nat.reduceEqDiff, reduceCtorEq, Nat.reduceAdd, Nat.reduceLeDiff, Nat.reduceMul, k1, k6, k7, k8, c1]
    · have : i = l.length := by have := of_decide_eq_false c1; omega
      subst this
      exact ⟨hH, ⟨_, rfl⟩, fun j h => hn j h h⟩
    have hil : i < l.length := by have := of_decide_eq_true c1; omega
    have w1 := wrap64 ((i : Int) + 1) (by omega) (by omega)
    obtain ⟨id, p, o, ho, hr, hp, hia⟩ := hl.elem (List.getElem?_eq_getElem hil)
    have hr : (o.drop p).take 3 = eRe l[i] := hr
    unfold eRe at hr
    obtain ⟨w', hw', hsl⟩ := hl.take hi
    have a114 := fun {m draw s d ts Q} => callT_at (m := m) (draw := draw) (s := s) (d := d) (ts := ts) (Q := Q) (f114 (H := H) (x := l[i]))
    have a115 := fun {m draw s d ts Q} => callT_at (m := m) (draw := draw) (s := s) (d := d) (ts := ts) (Q := Q) (f115 (x := l[i]) hw')
    rw [any_re] at a115
    have next : seenB l i l[i] = true → ∀ j, j < i + 1 → (h : j < l.length) → seenB l j l[j] = true := fun h j hj hjl => by
      by_cases e : j = i
      · subst e; exact h
      · exact hn j (by omega) hjl
    simp only [go_sem, ↓reduceIte, Nat.reduceEqDiff, reduceCtorEq, Nat.reduceAdd, Nat.reduceLeDiff, Nat.reduceMul, k1, k6, k7, k8, hia, hH, ho, hr, hp]
    refine go_draw ?_
    cases qa : auOk l[i] <;> simp only [go_sem, ↓reduceIte, Nat.reduceEqDiff, reduceCtorEq, Nat.reduceAdd, Nat.reduceLeDiff, Nat.reduceMul, k1, k6, k7, k8, a114, hw, qa]
    · refine ⟨by rfl, ?_⟩
      (try simp only [go_sem, ↓reduceIte, Nat.reduceEqDiff, reduceCtorEq, Nat.reduceAdd, Nat.reduceLeDiff, Nat.reduceMul, hH])
      rw [ch_no fun h => by have := h.2.2 i hil; unfold seenB at this; rw [qa] at this; cases this]
    simp only [go_sem, ↓reduceIte, Nat.reduceEqDiff, reduceCtorEq, Nat.reduceAdd, Nat.reduceLeDiff, Nat.reduceMul, k1, k6, k7, k8, hsl, a115, hw]
    refine ⟨by rfl, ?_⟩
    cases qb : (l.take i).any (eqRe · l[i]) <;> simp only [go_sem, ↓reduceIte, Nat.reduceEqDiff, reduceCtorEq, Nat.reduceAdd, Nat.reduceLeDiff, Nat.reduceMul, k1, k6, k7, k8, qb, w1, hH]
    · exact ⟨hil, ⟨_, rfl⟩, by simp, next (by unfold seenB; rw [qa, qb]; rfl)⟩
    · rw [ch_no fun h => by have := h.2.2 i hil; unfold seenB at this; rw [qa, qb] at this; cases this]
  · rintro s ⟨hH, ⟨g, k1⟩, hn⟩
    simp only [go_sem, ↓reduceIte, Nat.reduceEqDiff, reduceCtorEq, Nat.reduceAdd, Nat.reduceLeDiff, Nat.reduceMul, hH, k1, c82', hw]
    cases q1 : inB q (-1) 200000 <;> simp only [go_sem, ↓reduceIte, Nat.reduceEqDiff, reduceCtorEq, Nat.reduceAdd, Nat.reduceLeDiff, Nat.reduceMul, q1, k1, hl.len]
    · rw [ch_no fun h => by have := h.1; rw [q1] at this; cases this]
    cases q2 : decide ((l.length : Int) ≤ 6)
    · rw [ch_no fun h => by have := h.2.1; have := of_decide_eq_false q2; omega]
    · rw [ch_t.2 ⟨q1, by have := of_decide_eq_true q2; omega, hn⟩]
end Go.Proofs.YtglboiahgpfjdaaGreat.Ev

/- Pairs of a config: are they right? -/
namespace Go.Proofs.YtglboiahgpfjdaaGreat.Ev
set_option linter.all false
open Go
set_option maxRecDepth 4000

def prF (u : Bool) (x : Pr) : Bool := inB x.1 0 2 && (inB x.2 0 2 && !(u && decide (x.1 = x.2)))
theorem prF_lk : prF true = lkOk := by funext x; simp [prF, lkOk]
theorem prF_px : prF false = pxOk := by funext x; simp [prF, pxOk]
def PaP (p : Pr → Bool) (l : List Pr) : Prop := l.length ≤ 6 ∧ ∀ i, (h : i < l.length) → (p l[i] && !((l.take i).any (eqP · l[i]))) = true
open Classical in
noncomputable def paOk (p : Pr → Bool) (l : List Pr) : Bool := decide (PaP p l)
theorem pa_t {p : Pr → Bool} {l : List Pr} : paOk p l = true ↔ PaP p l := by unfold paOk; simp
theorem pa_no {p : Pr → Bool} {l : List Pr} (h : ¬ PaP p l) : paOk p l = false := by
  cases h2 : paOk p l with
  | false => rfl
  | true => exact absurd (pa_t.1 h2) h
theorem pa_at {p : Pr → Bool} {l : List Pr} {i : Nat} (hi : i < l.length) (h : p l[i] = false) : paOk p l = false := pa_no fun hp => by
  have := hp.2 i hi
  rw [h] at this
  cases this
theorem pa_at2 {p : Pr → Bool} {l : List Pr} {i : Nat} (hi : i < l.length) (h : (l.take i).any (eqP · l[i]) = true) : paOk p l = false := pa_no fun hp => by
  have := hp.2 i hi
  rw [h] at this
  simp at this

theorem f121 {H : Hp} {v : Value} {l : List Pr} {k : Nat} {p : Pr → Bool} (hl : SlP H v l) (hk : ∀ x : Pr, Scal EE k [.agg #[.int .i64 x.1, .int .i64 x.2]] H (.bool (p x))) :
    Scal EE 121 [v, .func (.func k) #[] #[]] H (.bool (paOk p l)) := by
  refine scal_ok rfl rfl k121 (by simp [c121]) rfl fun m hw => ?_
  have hroom := hl.room
  simp only [go_sem, ↓reduceIte, Nat.reduceEqDiff, reduceCtorEq, Nat.reduceAdd, Nat.reduceLeDiff, Nat.reduceMul, c121, hl.len]
  refine go_for l.length (fun i s => s.H = H ∧ s.ρ 0 = .val v ∧ s.ρ 1 = .val (.func (.func k) #[] #[]) ∧ s.ρ 7 = .val v ∧ s.ρ 8 = .val (.int .i64 l.length) ∧ s.ρ 9 = .val (.int .i64 i) ∧ ∀ j, j < i → (h : j < l.length) → (p l[j] && !((l.take j).any (eqP · l[j]))) = true)
    (fun s => s.H = H ∧ s.ρ 0 = .val v ∧ ∀ j, (h : j < l.length) → (p l[j] && !((l.take j).any (eqP · l[j]))) = true) (by simp [upd, ini]) ?_ ?_
  · rintro i s hi ⟨hH, k0, k1, k7, k8, k9, hn⟩
    simp only [go_sem, ↓reduceIte, Nat.reduceEqDiff, reduceCtorEq, Nat.reduceAdd, Nat.reduceLeDiff, Nat.reduceMul, k0, k1, k7, k8, k9]
    cases c1 : decide ((i : Int) < (l.length : Int)) <;> simp only [go_sem, ↓reduceIte, Nat.reduceEqDiff, reduceCtorEq, Nat.reduceAdd, Nat.reduceLeDiff, Nat.reduceMul, k0, k1, k7, k8, k9, c1]
    · have : i = l.length := by have := of_decide_eq_false c1; omega
      subst this
      exact ⟨hH, fun j h => hn j h h⟩
    have hil : i < l.length := by have := of_decide_eq_true c1; omega
    have w1 := wrap64 ((i : Int) + 1) (by omega) (by omega)
    obtain ⟨id, q, o, ho, hr, hp, hia⟩ := hl.elem (List.getElem?_eq_getElem hil)
    have hr : (o.drop q).take 2 = ePr l[i] := hr
    unfold ePr at hr
    obtain ⟨w', hw', hsl⟩ := hl.take hi
    have ak := fun {m draw s d ts Q} => callT_at (m := m) (draw := draw) (s := s) (d := d) (ts := ts) (Q := Q) (hk l[i])
    have a143 := fun {m draw s d ts Q} => callT_at (m := m) (draw := draw) (s := s) (d := d) (ts := ts) (Q := Q) (f143 (x := l[i]) hw')
    rw [any_pr] at a143
    simp only [go_sem, ↓reduceIte, Nat.reduceEqDiff, reduceCtorEq, Nat.reduceAdd, Nat.reduceLeDiff, Nat.reduceMul, k0, k1, k7, k8, k9, hia, hH, ho, hr, hp]
    refine go_draw ?_
    cases qa : p l[i] <;> simp only [go_sem, ↓reduceIte, Nat.reduceEqDiff, reduceCtorEq, Nat.reduceAdd, Nat.reduceLeDiff, Nat.reduceMul, k0, k1, k7, k8, k9, ak, hw, qa, List.append_nil]
    · refine ⟨by rfl, ?_⟩
      (try simp only [go_sem, ↓reduceIte, Nat.reduceEqDiff, reduceCtorEq, Nat.reduceAdd, Nat.reduceLeDiff, Nat.reduceMul, hH])
      rw [pa_at hil qa]
    simp only [go_sem, ↓reduceIte, Nat.reduceEqDiff, reduceCtorEq, Nat.reduceAdd, Nat.reduceLeDiff, Nat.reduceMul, k0, k1, k7, k8, k9, hsl, a143, hw]
    refine ⟨by rfl, ?_⟩
    cases qb : (l.take i).any (eqP · l[i]) <;> simp only [go_sem, ↓reduceIte, Nat.reduceEqDiff, reduceCtorEq, Nat.reduceAdd, Nat.reduceLeDiff, Nat.reduceMul, k0, k1, k7, k8, k9, qb, w1, hH]
    · refine ⟨hil, by simp, fun j hj hjl => ?_⟩
      by_cases e : j = i
      · subst e; rw [qa, qb]; rfl
      · exact hn j (by omega) hjl
    · rw [pa_at2 hil qb]
  · rintro s ⟨hH, k0, hn⟩
    simp only [go_sem, ↓reduceIte, Nat.reduceEqDiff, reduceCtorEq, Nat.reduceAdd, Nat.reduceLeDiff, Nat.reduceMul, hH, k0, hl.len]
    cases q2 : decide ((l.length : Int) ≤ 6)
    · rw [pa_no fun h => by have := h.1; have := of_decide_eq_false q2; omega]
    · rw [pa_t.2 ⟨by have := of_decide_eq_true q2; omega, hn⟩]

theorem prF_a {u : Bool} {x : Pr} (h : x.1 < 0 ∨ x.1 ≥ 3) : prF u x = false := by
  unfold prF
  cases q : inB x.1 0 2 with
  | false => rfl
  | true => have := inB_t.1 q; omega
theorem prF_b {u : Bool} {x : Pr} (h : x.2 < 0 ∨ x.2 ≥ 3) : prF u x = false := by
  unfold prF
  cases q : inB x.2 0 2 with
  | false => simp
  | true => have := inB_t.1 q; omega
theorem prF_c {u : Bool} {x : Pr} (h : (u && decide (x.1 = x.2)) = true) : prF u x = false := by
  unfold prF
  rw [h]
  simp
theorem prF_d {u : Bool} {x : Pr} (h1 : ¬ x.1 < 0) (h2 : ¬ x.1 ≥ 3) (h3 : ¬ x.2 < 0) (h4 : ¬ x.2 ≥ 3) (h : (u && decide (x.1 = x.2)) = false) : prF u x = true := by
  unfold prF
  rw [h, inB_t.2 ⟨by omega, by omega⟩, inB_t.2 ⟨by omega, by omega⟩]
  rfl
theorem f97 {H : Hp} {v : Value} {l : List Pr} {u : Bool} (hl : SlP H v l) : Scal EE 97 [v, .int .i64 3, .bool u] H (.bool (paOk (prF u) l)) := by
  refine scal_ok rfl rfl k97 (by simp [c97]) rfl fun m hw => ?_
  have hroom := hl.room
  simp only [go_sem, ↓reduceIte, Nat.reduceEqDiff, reduceCtorEq, Nat.reduceAdd, Nat.reduceLeDiff, Nat.reduceMul, c97, hl.len]
  cases q2 : decide ((l.length : Int) > 6) <;> simp only [go_sem, ↓reduceIte, Nat.reduceEqDiff, reduceCtorEq, Nat.reduceAdd, Nat.reduceLeDiff, Nat.reduceMul, q2]
  rotate_left
  · rw [pa_no fun h => by have := h.1; have := of_decide_eq_true q2; omega]
  have h6 : l.length ≤ 6 := by have := of_decide_eq_false q2; omega
  refine go_for l.length (fun i s => s.H = H ∧ s.ρ 0 = .val v ∧ s.ρ 1 = .val (.int .i64 3) ∧ s.ρ 2 = .val (.bool u) ∧ s.ρ 7 = .val (.int .i64 i) ∧ ∀ j, j < i → (h : j < l.length) → (prF u l[j] && !((l.take j).any (eqP · l[j]))) = true)
    (fun s => s.H = H ∧ ∀ j, (h : j < l.length) → (prF u l[j] && !((l.take j).any (eqP · l[j]))) = true) (by simp [upd, ini]) ?_ ?_
  · rintro i s hi ⟨hH, k0, k1, k2, k7, hn⟩
    simp only [go_sem, ↓reduceIte, Nat.reduceEqDiff, reduceCtorEq, Nat.reduceAdd, Nat.reduceLeDiff, Nat.reduceMul, k0, k1, k2, k7, hl.len]
    cases c1 : decide ((i : Int) < (l.length : Int)) <;> simp only [go_sem, ↓reduceIte, Nat.reduceEqDiff, reduceCtorEq, Nat.reduceAdd, Nat.reduceLeDiff, Nat.reduceMul, k0, k1, k2, k7, c1]
    · have : i = l.length := by have := of_decide_eq_false c1; omega
      subst this
      exact ⟨hH, fun j h => hn j h h⟩
    have hil : i < l.length := by have := of_decide_eq_true c1; omega
    have w1 := wrap64 ((i : Int) + 1) (by omega) (by omega)
    obtain ⟨id, q, o, ho, hr, hp, hia⟩ := hl.elem (List.getElem?_eq_getElem hil)
    have hr : (o.drop q).take 2 = ePr l[i] := hr
    unfold ePr at hr
    obtain ⟨w', hw', hsl⟩ := hl.take hi
    have a139 := fun {m draw s d ts Q} => callT_at (m := m) (draw := draw) (s := s) (d := d) (ts := ts) (Q := Q) (f139 (x := l[i]) hw')
    simp only [go_sem, ↓reduceIte, Nat.reduceEqDiff, reduceCtorEq, Nat.reduceAdd, Nat.reduceLeDiff, Nat.reduceMul, k0, k1, k2, k7, hia, hH, ho, hr, hp]
    refine go_draw ?_
    cases qa : decide (l[i].1 < 0) <;> simp only [go_sem, ↓reduceIte, Nat.reduceEqDiff, reduceCtorEq, Nat.reduceAdd, Nat.reduceLeDiff, Nat.reduceMul, k0, k1, k2, k7, qa]
    rotate_left
    · refine ⟨by rfl, ?_⟩
      (try simp only [go_sem, ↓reduceIte, Nat.reduceEqDiff, reduceCtorEq, Nat.reduceAdd, Nat.reduceLeDiff, Nat.reduceMul, hH])
      rw [pa_at hil (prF_a (.inl (of_decide_eq_true qa)))]
    cases qb : decide (l[i].1 ≥ 3) <;> simp only [go_sem, ↓reduceIte, Nat.reduceEqDiff, reduceCtorEq, Nat.reduceAdd, Nat.reduceLeDiff, Nat.reduceMul, k0, k1, k2, k7, qb]
    rotate_left
    · refine ⟨by rfl, ?_⟩
      (try simp only [go_sem, ↓reduceIte, Nat.reduceEqDiff, reduceCtorEq, Nat.reduceAdd, Nat.reduceLeDiff, Nat.reduceMul, hH])
      rw [pa_at hil (prF_a (.inr (of_decide_eq_true qb)))]
    cases qc : decide (l[i].2 < 0) <;> simp only [go_sem, ↓reduceIte, Nat.reduceEqDiff, reduceCtorEq, Nat.reduceAdd, Nat.reduceLeDiff, Nat.reduceMul, k0, k1, k2, k7, qc]
    rotate_left
    · refine ⟨by rfl, ?_⟩
      (try simp only [go_sem, ↓reduceIte, Nat.reduceEqDiff, reduceCtorEq, Nat.reduceAdd, Nat.reduceLeDiff, Nat.reduceMul, hH])
      rw [pa_at hil (prF_b (.inl (of_decide_eq_true qc)))]
    cases qd : decide (l[i].2 ≥ 3) <;> simp only [go_sem, ↓reduceIte, Nat.reduceEqDiff, reduceCtorEq, Nat.reduceAdd, Nat.reduceLeDiff, Nat.reduceMul, k0, k1, k2, k7, qd]
    rotate_left
    · refine ⟨by rfl, ?_⟩
      (try simp only [go_sem, ↓reduceIte, Nat.reduceEqDiff, reduceCtorEq, Nat.reduceAdd, Nat.reduceLeDiff, Nat.reduceMul, hH])
      rw [pa_at hil (prF_b (.inr (of_decide_eq_true qd)))]
    have fin : ∀ b : Bool, (u && decide (l[i].1 = l[i].2)) = b → (b = true → paOk (prF u) l = false) ∧ (b = false → prF u l[i] = true) := fun b hb => ⟨fun h => pa_at hil (prF_c (hb.trans h)), fun h => prF_d (of_decide_eq_false qa) (of_decide_eq_false qb) (of_decide_eq_false qc) (of_decide_eq_false qd) (hb.trans h)⟩
    have key : prF u l[i] = true → ∀ b, (l.take i).any (eqP · l[i]) = b → (b = true → paOk (prF u) l = false) ∧ (b = false → ∀ j, j < i + 1 → (h : j < l.length) → (prF u l[j] && !((l.take j).any (eqP · l[j]))) = true) := fun h b hb => ⟨fun e => pa_at2 hil (hb.trans e), fun e j hj hjl => by
      by_cases e2 : j = i
      · subst e2; rw [h, hb, e]; rfl
      · exact hn j (by omega) hjl⟩
    cases u <;> simp only [go_sem, ↓reduceIte, Nat.reduceEqDiff, reduceCtorEq, Nat.reduceAdd, Nat.reduceLeDiff, Nat.reduceMul, k0, k1, k2, k7, hsl, a139, hw]
    · refine ⟨by rfl, ?_⟩
      have hp1 := (fin false rfl).2 rfl
      cases qe : (l.take i).any (eqP · l[i]) <;> simp only [go_sem, ↓reduceIte, Nat.reduceEqDiff, reduceCtorEq, Nat.reduceAdd, Nat.reduceLeDiff, Nat.reduceMul, k0, k1, k2, k7, qe, w1, hH]
      · exact ⟨hil, by simp, (key hp1 _ qe).2 rfl⟩
      · rw [(key hp1 _ qe).1 rfl]
    · cases qf : decide (l[i].1 = l[i].2) <;> simp only [go_sem, ↓reduceIte, Nat.reduceEqDiff, reduceCtorEq, Nat.reduceAdd, Nat.reduceLeDiff, Nat.reduceMul, k0, k1, k2, k7, hsl, a139, hw, qf]
      · refine ⟨by rfl, ?_⟩
        have hp1 := (fin false (by rw [qf]; rfl)).2 rfl
        cases qe : (l.take i).any (eqP · l[i]) <;> simp only [go_sem, ↓reduceIte, Nat.reduceEqDiff, reduceCtorEq, Nat.reduceAdd, Nat.reduceLeDiff, Nat.reduceMul, k0, k1, k2, k7, qe, w1, hH]
        · exact ⟨hil, by simp, (key hp1 _ qe).2 rfl⟩
        · rw [(key hp1 _ qe).1 rfl]
      · refine ⟨by rfl, ?_⟩
        (try simp only [go_sem, ↓reduceIte, Nat.reduceEqDiff, reduceCtorEq, Nat.reduceAdd, Nat.reduceLeDiff, Nat.reduceMul, hH])
        rw [(fin true (by rw [qf]; rfl)).1 rfl]
  · rintro s ⟨hH, hn⟩
    simp only [go_sem, ↓reduceIte, Nat.reduceEqDiff, reduceCtorEq, Nat.reduceAdd, Nat.reduceLeDiff, Nat.reduceMul, hH]
    rw [pa_t.2 ⟨h6, hn⟩]
end Go.Proofs.YtglboiahgpfjdaaGreat.Ev
