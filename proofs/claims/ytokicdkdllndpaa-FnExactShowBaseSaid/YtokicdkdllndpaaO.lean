/- What comes in by a law's parameters, opened: a value that can be read as data of a type is a value of the type's kind, whatever the type: numbers, texts, flags, lists, records, one in another. -/
import Derived.ChangeSame
import Derived.ChangeShapes
import Derived.WideShapes
import Derived.Test.YtokicdkdllndpaaWWords
import Derived.Carry
namespace Go.Proofs.Ytokicdkdllndpaa.O
open Go.RowKit Go.Proofs.YtokicdkdllndpaaW.PrintWords Go.ChangeShapes Go.WideShapes

theorem exists_list {α : Type} (n : Nat) (Q : Nat → α → Prop) (h : ∀ i, i < n → ∃ z, Q i z) : ∃ l : List α, l.length = n ∧ ∀ i z, l[i]? = some z → Q i z := by
  induction n with
  | zero => exact ⟨[], rfl, fun i z hz => by simp at hz⟩
  | succ n ih =>
    obtain ⟨l, hl, hQ⟩ := ih (fun i hi => h i (by omega))
    obtain ⟨z, hz⟩ := h n (by omega)
    refine ⟨l ++ [z], by simp [hl], fun i y hy => ?_⟩
    by_cases hi : i < l.length
    · rw [List.getElem?_append_left hi] at hy
      exact hQ i y hy
    · rw [List.getElem?_append_right (by omega)] at hy
      have h0 : i - l.length = 0 := by
        have := (List.getElem?_eq_some_iff.1 hy).1
        simp at this
        omega
      rw [h0] at hy
      have hy' : z = y := by simpa using hy
      subst hy'
      have : i = n := by omega
      rw [this]
      exact hz

theorem add_add (a : Addr) (m j : Nat) : (a.add m).add j = a.add (m + j) := by
  unfold Addr.add
  by_cases hm : m = 0
  · subst hm
    simp
  · by_cases hj : j = 0
    · subst hj
      simp [hm]
    · simp [hm, hj, Nat.add_assoc]

structure Opens {α : Type} (P : Program) (d : Kd α) (t : TypeId) (ok : α → Prop) : Prop where
  sz : P.cellsOf t = d.sz
  opens : ∀ {H : Type} {enc : TypeId × Value → H} {w : World} {base : Nat} {spare : Nat → Bool} {held : Bool} {fuel : Nat} {cs : List Value} {x : DataW H × List MemPlace},
    DataW.trod enc P w base spare held fuel t cs = some x → ∃ z, d.K w z cs ∧ ok z

def okI (k : IntKind) (n : Int) : Prop := (Lit.int k n).wf = true
def okB (_ : Bool) : Prop := True
def okS (s : ByteArray) : Prop := s.size ≤ maxLen
def okL {α : Type} (ok : α → Prop) (l : List α) : Prop := l.length ≤ maxLen ∧ ∀ x, x ∈ l → ok x
def okP {α β : Type} (a : α → Prop) (b : β → Prop) (x : α × β) : Prop := a x.1 ∧ b x.2

variable {P : Program}
theorem Opens.int {k : IntKind} {t : TypeId} (ht : P.underlying t = some (.int k)) (hc : P.cellsOf t = 1) : Opens P (Kd.int k) t (okI k) :=
  ⟨hc, fun h => by
    obtain ⟨n, rfl, _, hw⟩ := DataW.trod_int ht h
    exact ⟨n, rfl, hw⟩⟩
theorem Opens.bool {t : TypeId} (ht : P.underlying t = some .bool) (hc : P.cellsOf t = 1) : Opens P Kd.bool t okB :=
  ⟨hc, fun h => by
    obtain ⟨b, rfl, _⟩ := DataW.trod_bool ht h
    exact ⟨b, rfl, trivial⟩⟩
theorem Opens.string {t : TypeId} (ht : P.underlying t = some .string) (hc : P.cellsOf t = 1) : Opens P Kd.string t okS :=
  ⟨hc, fun h => by
    obtain ⟨s, rfl, _, hs⟩ := DataW.trod_string ht h
    exact ⟨s, rfl, hs⟩⟩
theorem Opens.slice {α : Type} {d : Kd α} {t e : TypeId} {ok : α → Prop} (ht : P.underlying t = some (.slice e)) (hc : P.cellsOf t = 1) (he : Opens P d e ok) : Opens P (Kd.slice e d) t (okL ok) :=
  ⟨hc, fun {H enc w base spare held fuel cs x} h => by
    rcases DataW.trod_slice ht h with ⟨rfl, _⟩ | ⟨a, len, cap, elems, rest, n, _, rfl, _, _, hl, hm, hlen, hel, _, _⟩
    · exact ⟨[], ⟨none, 0, rfl, Nat.le_refl _, rfl, by simp, fun h => absurd h (by simp)⟩, by simp [okL]⟩
    · obtain ⟨l, hll, hQ⟩ := exists_list len (fun i z => ok z ∧ ∃ c, c.length = d.sz ∧ d.K w z c ∧ ∀ j u, c[j]? = some u → w.cell? (a.add (i * d.sz + j)) = some u) (fun i hi => by
        have h1 := hel i hi
        rw [List.getElem?_eq_getElem (by omega)] at h1
        obtain ⟨c, hcells, htr⟩ := Option.bind_eq_some_iff.1 h1
        obtain ⟨_, hcl, hcell⟩ := World.cells?_some hcells
        obtain ⟨z, hz, hok⟩ := he.opens htr
        refine ⟨z, hok, c, by rw [hcl, he.sz], hz, fun j u hu => ?_⟩
        have hj : j < P.cellsOf e := by
          have := (List.getElem?_eq_some_iff.1 hu).1
          omega
        have h2 := hcell j hj
        rw [hu, he.sz] at h2
        rw [← h2]
        rw [add_add])
      refine ⟨l, ⟨some a, cap, by rw [hll], by omega, rfl, by simp only [maxLen] at hm; omega, fun _ => ⟨a, rfl, fun j p hp => (hQ j p hp).2⟩⟩, by simp only [hll]; omega, fun x hx => ?_⟩
      obtain ⟨i, hi⟩ := List.getElem?_of_mem hx
      exact (hQ i x hi).1⟩
/-- Fields in line, from an offset on. -/
structure Seq {α : Type} (P : Program) (d : Kd α) (fs : List (TypeId × Nat)) (off : Nat) (ok : α → Prop) : Prop where
  opens : ∀ {H : Type} {enc : TypeId × Value → H} {w : World} {base : Nat} {spare : Nat → Bool} {held : Bool} {fuel : Nat} {cs : List Value}, cs.length = off + d.sz →
    (∀ f, f ∈ fs → ∃ y, DataW.trod enc P w base spare held fuel f.1 ((cs.drop f.2).take (P.cellsOf f.1)) = some y) → ∃ z, d.K w z (cs.drop off) ∧ ok z
theorem Seq.one {α : Type} {d : Kd α} {t : TypeId} {off : Nat} {ok : α → Prop} (h : Opens P d t ok) : Seq P d [(t, off)] off ok :=
  ⟨fun {H enc w base spare held fuel cs} hl hf => by
    obtain ⟨y, hy⟩ := hf (t, off) (by simp)
    have e : (cs.drop off).take (P.cellsOf t) = cs.drop off := List.take_of_length_le (by rw [List.length_drop, h.sz]; omega)
    simp only [e] at hy
    exact h.opens hy⟩
theorem Seq.cons {α β : Type} {a : Kd α} {b : Kd β} {t : TypeId} {off off' : Nat} {fs : List (TypeId × Nat)} {oka : α → Prop} {okb : β → Prop} (h : Opens P a t oka) (ho : off' = off + a.sz) (hs : Seq P b fs off' okb) :
    Seq P (Kd.pair a b) ((t, off) :: fs) off (okP oka okb) :=
  ⟨fun {H enc w base spare held fuel cs} hl hf => by
    obtain ⟨y, hy⟩ := hf (t, off) (by simp)
    have hl' : cs.length = off + (a.sz + b.sz) := hl
    obtain ⟨z, hz, hzo⟩ := h.opens hy
    obtain ⟨z', hz', hzo'⟩ := hs.opens (by rw [ho]; omega) (fun f hff => hf f (List.mem_cons_of_mem _ hff))
    refine ⟨(z, z'), ⟨_, _, ?_, hz, hz'⟩, hzo, hzo'⟩
    rw [ho, h.sz, ← List.drop_drop, List.take_append_drop]⟩
theorem Opens.struct {α β : Type} {d : Kd α} {t : TypeId} {fs : Array Field} {ok : α → Prop} (ht : P.underlying t = some (.struct fs)) (hc : P.cellsOf t = d.sz) (hs : Seq P d (fs.toList.map fun f => (f.type, f.offset)) 0 ok) (f : β → α) (g : α → β) (hg : ∀ x, f (g x) = x) :
    Opens P (Kd.iso d f) t (fun x => ok (f x)) :=
  ⟨hc, fun {H enc w base spare held fuel cs x} h => by
    obtain ⟨xs, n, _, _, hl, hxl, hx⟩ := DataW.trod_struct ht h
    obtain ⟨z, hz, hok⟩ := hs.opens (enc := enc) (w := w) (base := base) (spare := spare) (held := held) (fuel := n) (cs := cs) (by rw [hl, hc]; omega) (fun y hy => by
      obtain ⟨fl, hfl, rfl⟩ := List.mem_map.1 hy
      obtain ⟨i, hi⟩ := List.getElem?_of_mem hfl
      have hi' : fs[i]? = some fl := by rw [← hi]; simp
      have := hx i fl hi'
      have hlt : i < xs.length := by
        have := (List.getElem?_eq_some_iff.1 hi).1
        simp at this
        omega
      rw [List.getElem?_eq_getElem hlt] at this
      exact ⟨_, this⟩)
    refine ⟨g z, ?_, ?_⟩
    · show d.K w (f (g z)) cs
      rw [hg]
      simpa using hz
    · show ok (f (g z))
      rw [hg]
      exact hok⟩
/-- A parameter, opened. -/
theorem Opens.of_trod {α : Type} {d : Kd α} {t : TypeId} {ok : α → Prop} (h : Opens P d t ok) {H : Type} {enc : TypeId × Value → H} {w : World} {base : Nat} {spare : Nat → Bool} {held : Bool} {v : Value} {D : DataW H} {ps : List MemPlace}
    (ht : DataW.Trod enc P w base spare held t v D ps) : ∃ z, d.K w z v.cells.toList ∧ ok z := by
  obtain ⟨fuel, hf⟩ := ht
  exact h.opens hf
end Go.Proofs.Ytokicdkdllndpaa.O
