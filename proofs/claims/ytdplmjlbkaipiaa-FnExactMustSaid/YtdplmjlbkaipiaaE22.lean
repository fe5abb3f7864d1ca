/- What comes in by a law's parameters, as rows of the small machine. -/
import Derived.Test.YtdplmjlbkaipiaaE21
import Derived.ChangeSame
import Derived.ChangeShapes
import Derived.WideShapes
import Derived.Carry
namespace Go.Proofs.Ytdplmjlbkaipiaa.Ev
set_option linter.all false
open Go Go.ChangeShapes Go.WideShapes Go.RowKit

/-- Is there a block of cells at all? -/
def Blk (w : World) : Prop := ∃ (b : Nat) (ds : Array Value) (e : TypeId) (lo hi : Nat), w.heap[b]? = some (.cells ds e (lo, hi))

/-- Rows that are only read. -/
def RdRel (J : Inj) (M : Hp) (w : World) : Prop := WRel M.length J M w

def Ext (J : Inj) (M : Hp) (J' : Inj) (M' : Hp) : Prop := M <+: M' ∧ ∀ id, id < M.length → J' id = J id

theorem Ext.refl (J : Inj) (M : Hp) : Ext J M J M := ⟨List.prefix_refl _, fun _ _ => rfl⟩
theorem Ext.trans {J J' J'' : Inj} {M M' M'' : Hp} (h : Ext J M J' M') (k : Ext J' M' J'' M'') : Ext J M J'' M'' :=
  ⟨h.1.trans k.1, fun id hid => (k.2 id (Nat.lt_of_lt_of_le hid h.1.length_le)).trans (h.2 id hid)⟩
theorem Ext.keep {J J' : Inj} {M M' : Hp} (h : Ext J M J' M') : Keep J M J' M' := fun id o ho =>
  ⟨o, by rw [pre_get h.1 (List.getElem?_eq_some_iff.1 ho).1]; exact ho, .inr ⟨rfl, h.2 id (List.getElem?_eq_some_iff.1 ho).1⟩⟩

/-- Values of a type, brought into the machine: what stands for them, and what is known of them. -/
structure Bld {α : Type} (P : Program) (t : TypeId) (sz : Nat) (R : Hp → α → List Value → Prop) (ok : α → Prop) : Prop where
  cells : P.cellsOf t = sz
  pos : 0 < sz
  mono : ∀ {M M' : Hp} {z : α} {vs : List Value}, M <+: M' → R M z vs → R M' z vs
  bld : ∀ {H : Type} {enc : TypeId × Value → H} {w : World} {base : Nat} {held : Bool} {fuel : Nat} {cs : List Value} {x : DataW H × List MemPlace},
    DataW.trod enc P w base (fun _ => true) held fuel t cs = some x → (∀ a l c, .slice (some a) l c ∈ cs → Blk w) → ∀ (J : Inj) (M : Hp), RdRel J M w →
    ∃ (J' : Inj) (M' : Hp) (vs : List Value) (z : α), Ext J M J' M' ∧ RdRel J' M' w ∧ LRel J' M' vs cs ∧ (∀ v ∈ vs, v.oneCell' = true) ∧ R M' z vs ∧ ok z

theorem RdRel.nil (w : World) : RdRel (fun _ => none) [] w :=
  ⟨fun id o h => by simp at h, fun _ _ _ _ _ _ h _ => by simp at h, fun _ _ => rfl⟩

section
variable {P : Program}

theorem Bld.int {k : IntKind} {t : TypeId} (ht : P.underlying t = some (.int k)) (hc : P.cellsOf t = 1) : Bld P t 1 (fun _ n vs => vs = [.int k n]) (fun n => (Lit.int k n).wf = true) :=
  ⟨hc, by omega, fun _ h => h, fun h _ J M hr => by
    obtain ⟨n, rfl, _, hw⟩ := DataW.trod_int ht h
    exact ⟨J, M, _, n, .refl _ _, hr, .cons (.int k n) .nil, by simp [Value.oneCell'], rfl, hw⟩⟩

theorem Bld.bool {t : TypeId} (ht : P.underlying t = some .bool) (hc : P.cellsOf t = 1) : Bld P t 1 (fun _ b vs => vs = [.bool b]) (fun _ => True) :=
  ⟨hc, by omega, fun _ h => h, fun h _ J M hr => by
    obtain ⟨n, rfl, _⟩ := DataW.trod_bool ht h
    exact ⟨J, M, _, n, .refl _ _, hr, .cons (.bool n) .nil, by simp [Value.oneCell'], rfl, trivial⟩⟩

theorem Bld.string {t : TypeId} (ht : P.underlying t = some .string) (hc : P.cellsOf t = 1) : Bld P t 1 (fun _ s vs => vs = [.string s]) (fun s => s.size ≤ maxLen) :=
  ⟨hc, by omega, fun _ h => h, fun h _ J M hr => by
    obtain ⟨n, rfl, _, hw⟩ := DataW.trod_string ht h
    exact ⟨J, M, _, n, .refl _ _, hr, .cons (.str n) .nil, by simp [Value.oneCell'], rfl, hw⟩⟩

/-- A new row that is only read. -/
theorem RdRel.push {J : Inj} {M : Hp} {w : World} (h : RdRel J M w) {l : Loc} {ds : Array Value} {e : TypeId} {lo hi : Nat} {o : List Value} (hb : w.heap[l.b]? = some (.cells ds e (lo, hi))) (hs : ds.size = l.sz) (hl : l.sh + o.length ≤ l.sz)
    (ho : LRel J M o ((ds.toList.drop l.sh).take o.length)) (h1 : ∀ v ∈ o, v.oneCell' = true) :
    Ext J M (fun id => if id = M.length then some l else J id) (M ++ [o]) ∧ RdRel (fun id => if id = M.length then some l else J id) (M ++ [o]) w := by
  have hx : Ext J M (fun id => if id = M.length then some l else J id) (M ++ [o]) := ⟨List.prefix_append _ _, fun id hid => by show (if id = M.length then some l else J id) = J id; rw [if_neg (by omega)]⟩
  refine ⟨hx, fun id o2 ho2 => ?_, fun id id' l2 l' hne hB hl1 hl2 => ?_, fun id hid => ?_⟩
  · have hid := (List.getElem?_eq_some_iff.1 ho2).1
    rw [List.length_append, List.length_singleton] at hid
    by_cases he : id = M.length
    · subst he
      rw [List.getElem?_append_right (Nat.le_refl _), Nat.sub_self] at ho2
      cases ho2
      refine ⟨l, ds, e, lo, hi, by simp, hb, hs, hl, fun i v hv => ⟨h1 v (List.mem_of_getElem? hv), ?_⟩, fun hB => by rw [List.length_append, List.length_singleton] at hB; omega⟩
      obtain ⟨y, hy, hr⟩ := ho.get hv
      have hi2 := (List.getElem?_eq_some_iff.1 hv).1
      refine ⟨y, ?_, hr.keep hx.keep⟩
      rw [take_drop_get, if_pos hi2, Array.getElem?_toList] at hy
      exact hy
    · rw [List.getElem?_append_left (by omega)] at ho2
      obtain ⟨l2, ds2, e2, lo2, hi2, a1, a2, a3, a4, a5, _⟩ := h.row id o2 ho2
      refine ⟨l2, ds2, e2, lo2, hi2, by show (if id = M.length then some l else J id) = some l2; rw [if_neg he]; exact a1, a2, a3, a4, fun i v hv => ?_, fun hB => by rw [List.length_append, List.length_singleton] at hB; omega⟩
      obtain ⟨b1, d, b2, b3⟩ := a5 i v hv
      exact ⟨b1, d, b2, b3.keep hx.keep⟩
  · rw [List.length_append, List.length_singleton] at hB
    have hl1 : (if id = M.length then some _ else J id) = some l2 := hl1
    rw [if_neg (by omega), h.dom id (by omega)] at hl1
    cases hl1
  · rw [List.length_append, List.length_singleton] at hid
    show (if id = M.length then some l else J id) = none
    rw [if_neg (by omega)]
    exact h.dom id (by omega)

end
end Go.Proofs.Ytdplmjlbkaipiaa.Ev
