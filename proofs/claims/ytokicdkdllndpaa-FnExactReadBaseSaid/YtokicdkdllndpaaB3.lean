/- Texts of this proof, laid one behind the other: what each shows stands at its head. -/
import Derived.Test.YtokicdkdllndpaaB2
import Derived.Sort.Grow
import Derived.Test.YtokicdkdllndpaaProg
import Derived.Test.YtokicdkdllndpaaRows
/- Lists and records that come in by a law's parameters. -/
namespace Go.Proofs.Ytokicdkdllndpaa.Ev
set_option linter.all false
open Go Go.ChangeShapes Go.WideShapes Go.RowKit

theorem add_add (a : Addr) (m j : Nat) : (a.add m).add j = a.add (m + j) := by
  unfold Addr.add
  by_cases hm : m = 0
  · subst hm; simp
  · by_cases hj : j = 0
    · subst hj; simp [hm]
    · simp [hm, hj, Nat.add_assoc]

theorem cell_some {w : World} {a : Addr} {k : Nat} {v : Value} (h : w.cell? (a.add k) = some v) (hs : k = 0 → a.spot = none) :
    ∃ (ds : Array Value) (e : TypeId) (lo hi : Nat), w.heap[a.block]? = some (.cells ds e (lo, hi)) ∧ ds[a.off + k]? = some v := by
  have hb : (a.add k).block = a.block := by unfold Addr.add; split <;> rfl
  have ho : (a.add k).off = a.off + k := by
    unfold Addr.add
    split
    · rename_i hk; subst hk; rfl
    · rfl
  unfold World.cell? at h
  rw [hb, ho] at h
  split at h
  · rename_i c e r hc
    split at h
    · cases h
    · exact ⟨c, e, r.1, r.2, hc, h⟩
  · cases h

theorem cell_spot {w : World} {a : Addr} {v : Value} (h : w.cell? (a.add 0) = some v) : a.spot = none := by
  have : a.add 0 = a := by simp [Addr.add]
  rw [this] at h
  unfold World.cell? at h
  split at h
  · split at h
    · cases h
    · rename_i hs
      cases hsp : a.spot with
      | none => rfl
      | some x => rw [hsp] at hs; exact absurd rfl hs
  · cases h

section
variable {P : Program}

theorem Bld.slice {α : Type} {R : Hp → α → List Value → Prop} {ok : α → Prop} {t e : TypeId} {sz : Nat} (ht : P.underlying t = some (.slice e)) (hc : P.cellsOf t = 1) (he : Bld P e sz R ok) :
    Bld P t 1 (fun M l vs => ∃ v, vs = [v] ∧ Sl (R M) sz M v l) (fun l => l.length ≤ maxLen ∧ ∀ x ∈ l, ok x) := by
  refine ⟨hc, by omega, fun {M M' z vs} hp ⟨v, h1, h2⟩ => ⟨v, h1, (h2.pre hp).frame (fun a _ cs h => he.mono hp h) fun _ _ _ _ _ _ => rfl⟩, ?_⟩
  intro H enc w base held fuel cs x h hb J M hr
  rcases DataW.trod_slice ht h with ⟨rfl, _⟩ | ⟨a, len, cap, elems, rest, n, _, rfl, _, hbase, hlc, hm, hlen, hel, hre, _⟩
  · exact ⟨J, M, _, [], .refl _ _, hr, .cons .nsl .nil, by simp [Value.oneCell'], ⟨_, rfl, .inl ⟨rfl, rfl⟩⟩, by simp⟩
  · have hpos := he.pos
    have hesz := he.cells
    have hblk : Blk w := hb a len cap (by simp)
    have hread : ∀ i, i < cap → ∃ c, w.cells? base (a.add (i * sz)) sz = some c ∧ (i < len → ∃ y, DataW.trod enc P w base (fun _ => true) held n e c = some y) := fun i hi => by
      by_cases hil : i < len
      · have h1 := hel i hil
        rw [List.getElem?_eq_getElem (by omega), hesz] at h1
        obtain ⟨c, h2, h3⟩ := Option.bind_eq_some_iff.1 h1
        exact ⟨c, h2, fun _ => ⟨_, h3⟩⟩
      · obtain ⟨h1, h2⟩ := hre rfl
        have h3 := h2 (i - len) (by omega)
        rw [List.getElem?_eq_getElem (by omega), hesz, show len + (i - len) = i by omega] at h3
        obtain ⟨c, h4, h5⟩ := Option.bind_eq_some_iff.1 h3
        exact ⟨c, h4, fun h => absurd h hil⟩
    have key : ∀ m, m ≤ len → ∃ (J' : Inj) (M' : Hp) (vs rc : List Value) (z : List α), Ext J M J' M' ∧ RdRel J' M' w ∧ LRel J' M' vs rc ∧ (∀ v ∈ vs, v.oneCell' = true) ∧ vs.length = m * sz ∧
        (∀ k, k < m * sz → w.cell? (a.add k) = rc[k]?) ∧ z.length = m ∧ ∀ i x, z[i]? = some x → R M' x ((vs.drop (i * sz)).take sz) ∧ ok x := fun m => by
      induction m with
      | zero => exact fun _ => ⟨J, M, [], [], [], .refl _ _, hr, .nil, by simp, by simp, fun k hk => by omega, rfl, fun i x hx => by simp at hx⟩
      | succ m ih =>
        intro hml
        obtain ⟨J1, M1, vs1, rc1, z1, e1, r1, l1, o1, n1, c1, zl1, zr1⟩ := ih (by omega)
        obtain ⟨c, hc1, hc2⟩ := hread m (by omega)
        obtain ⟨y, hy⟩ := hc2 (by omega)
        obtain ⟨_, hcl, hcell⟩ := World.cells?_some hc1
        obtain ⟨J2, M2, vs2, z2, e2, r2, l2, o2, p2, k2⟩ := he.bld hy (fun _ _ _ _ => hblk) J1 M1 r1
        have hv2 : vs2.length = sz := by rw [l2.1, hcl]
        refine ⟨J2, M2, vs1 ++ vs2, rc1 ++ c, z1 ++ [z2], e1.trans e2, r2, (l1.keep e2.keep).append l2, fun v hv => ?_, by rw [List.length_append, n1, hv2, Nat.succ_mul], fun k hk => ?_, by simp [zl1], fun i x hx => ?_⟩
        · rcases List.mem_append.1 hv with h | h
          · exact o1 v h
          · exact o2 v h
        · have hrc : rc1.length = m * sz := by rw [← l1.1, n1]
          by_cases hkm : k < m * sz
          · rw [List.getElem?_append_left (by omega)]
            exact c1 k hkm
          · rw [Nat.succ_mul] at hk
            rw [List.getElem?_append_right (by omega), hrc, ← hcell (k - m * sz) (by omega), add_add, show m * sz + (k - m * sz) = k by omega]
        · by_cases hi : i < m
          · rw [List.getElem?_append_left (by omega)] at hx
            obtain ⟨q1, q2⟩ := zr1 i x hx
            refine ⟨?_, q2⟩
            have hle : (i + 1) * sz ≤ m * sz := Nat.mul_le_mul_right _ hi
            rw [Nat.succ_mul] at hle
            rw [List.drop_append_of_le_length (by omega), List.take_append_of_le_length (by rw [List.length_drop]; omega)]
            exact he.mono e2.1 q1
          · have hil := (List.getElem?_eq_some_iff.1 hx).1
            rw [List.length_append, List.length_singleton] at hil
            have him : i = m := by omega
            subst him
            rw [List.getElem?_append_right (by omega), zl1, Nat.sub_self] at hx
            cases hx
            refine ⟨?_, k2⟩
            rw [List.drop_append_of_le_length (by omega), List.drop_of_length_le (by omega), List.nil_append, List.take_of_length_le (by omega)]
            exact p2
    obtain ⟨J1, M1, vs, rc, z, e1, r1, l1, o1, n1, c1, zl, zr⟩ := key len (Nat.le_refl _)
    have fin : ∀ (l : Loc) (ds : Array Value) (e' : TypeId) (lo hi : Nat), w.heap[l.b]? = some (.cells ds e' (lo, hi)) → ds.size = l.sz → l.sh + vs.length ≤ l.sz → LRel J1 M1 vs ((ds.toList.drop l.sh).take vs.length) →
        ((len = 0 ∧ cap = 0) ∨ (a = ⟨l.b, l.sh + 0, none⟩ ∧ l.sh + 0 + cap * sz ≤ l.sz)) →
        ∃ (J' : Inj) (M' : Hp) (vs : List Value) (z : List α), Ext J M J' M' ∧ RdRel J' M' w ∧ LRel J' M' vs [.slice (some a) len cap] ∧ (∀ v ∈ vs, v.oneCell' = true) ∧ (∃ v, vs = [v] ∧ Sl (R M') sz M' v z) ∧ (z.length ≤ maxLen ∧ ∀ x ∈ z, ok x) := fun l ds e' lo hi h1 h2 h3 h4 h5 => by
      obtain ⟨x1, x2⟩ := r1.push h1 h2 h3 h4 o1
      refine ⟨_, _, [.slice (some ⟨M1.length, 0, some sz⟩) len (len * sz)], z, e1.trans x1, x2, .cons (.sl _ _ _ _ _ vs a cap (by simp) (by omega) hlc (Nat.mul_le_mul_right _ hlc) fun _ => ⟨l, by simp, h5⟩) .nil, by simp [Value.oneCell'], ⟨_, rfl, ?_⟩, by omega, fun y hy => ?_⟩
      · refine .inr ⟨M1.length, 0, len * sz, vs, by rw [zl], by simp, by omega, by rw [zl]; omega, by unfold maxLen at hm; omega, fun i y hy => ?_⟩
        rw [Nat.zero_add]
        exact he.mono x1.1 (zr i y hy).1
      · obtain ⟨i, hi⟩ := List.getElem?_of_mem hy
        exact (zr i y hi).2
    by_cases hcap : cap = 0
    · have hl0 : len = 0 := by omega
      obtain ⟨b, ds, e', lo, hi, hbk⟩ := hblk
      have hv0 : vs = [] := List.eq_nil_of_length_eq_zero (by rw [n1, hl0]; omega)
      refine fin ⟨b, 0, ds.size⟩ ds e' lo hi hbk rfl (by rw [hv0]; simp) ?_ (.inl ⟨hl0, hcap⟩)
      rw [hv0]
      exact ⟨by simp, fun i x y hx => by simp at hx⟩
    · obtain ⟨c0, hc0, _⟩ := hread 0 (by omega)
      obtain ⟨_, hcl0, hcell0⟩ := World.cells?_some hc0
      have q0 := hcell0 0 hpos
      rw [add_add, Nat.zero_mul, Nat.zero_add, List.getElem?_eq_getElem (by omega)] at q0
      have hspot := cell_spot q0
      obtain ⟨ds, e', lo, hi, hbk, _⟩ := cell_some q0 fun _ => hspot
      have hcells : ∀ k v, w.cell? (a.add k) = some v → ds[a.off + k]? = some v := fun k v hv => by
        obtain ⟨ds2, e2, lo2, hi2, hb2, hd2⟩ := cell_some hv fun _ => hspot
        rw [hbk] at hb2
        cases hb2
        exact hd2
      obtain ⟨c9, hc9, _⟩ := hread (cap - 1) (by omega)
      obtain ⟨_, hcl9, hcell9⟩ := World.cells?_some hc9
      have q9 := hcell9 (sz - 1) (by omega)
      rw [add_add, List.getElem?_eq_getElem (by omega)] at q9
      have hsz9 := (Array.getElem?_eq_some_iff.1 (hcells _ _ q9)).1
      have hmul : (cap - 1) * sz + sz = cap * sz := by
        rw [← Nat.succ_mul]
        congr 1
        omega
      have hlm : len * sz ≤ cap * sz := Nat.mul_le_mul_right _ hlc
      refine fin ⟨a.block, a.off, ds.size⟩ ds e' lo hi hbk rfl (by simp only; omega) ⟨?_, fun i x y hx hy => ?_⟩ (.inr ⟨?_, by simp only; omega⟩)
      · rw [List.length_take, List.length_drop, Array.length_toList]
        show vs.length = min vs.length (ds.size - a.off)
        omega
      · have hi2 := (List.getElem?_eq_some_iff.1 hx).1
        obtain ⟨y2, hy2, hr2⟩ := l1.get hx
        have := c1 i (by omega)
        rw [hy2] at this
        have h3 := hcells _ _ this
        rw [take_drop_get, if_pos hi2, Array.getElem?_toList, h3] at hy
        cases hy
        exact hr2
      · cases a
        simp only at hspot
        subst hspot
        rfl

/-- Fields in line, from an offset on. -/
structure SeqB {α : Type} (P : Program) (sz : Nat) (R : Hp → α → List Value → Prop) (ok : α → Prop) (fs : List (TypeId × Nat)) (off : Nat) : Prop where
  pos : 0 < sz
  mono : ∀ {M M' : Hp} {z : α} {vs : List Value}, M <+: M' → R M z vs → R M' z vs
  bld : ∀ {H : Type} {enc : TypeId × Value → H} {w : World} {base : Nat} {held : Bool} {fuel : Nat} {cs : List Value}, cs.length = off + sz →
    (∀ f, f ∈ fs → ∃ y, DataW.trod enc P w base (fun _ => true) held fuel f.1 ((cs.drop f.2).take (P.cellsOf f.1)) = some y) → (∀ a l c, .slice (some a) l c ∈ cs → Blk w) → ∀ (J : Inj) (M : Hp), RdRel J M w →
    ∃ (J' : Inj) (M' : Hp) (vs : List Value) (z : α), Ext J M J' M' ∧ RdRel J' M' w ∧ LRel J' M' vs (cs.drop off) ∧ (∀ v ∈ vs, v.oneCell' = true) ∧ R M' z vs ∧ ok z

theorem SeqB.one {α : Type} {R : Hp → α → List Value → Prop} {ok : α → Prop} {t : TypeId} {sz off : Nat} (h : Bld P t sz R ok) : SeqB P sz R ok [(t, off)] off :=
  ⟨h.pos, h.mono, fun {H enc w base held fuel cs} hl hf hb J M hr => by
    obtain ⟨y, hy⟩ := hf (t, off) (by simp)
    have e : (cs.drop off).take (P.cellsOf t) = cs.drop off := List.take_of_length_le (by rw [List.length_drop, h.cells]; omega)
    simp only [e] at hy
    exact h.bld hy (fun a l c hm => hb a l c (List.mem_of_mem_drop hm)) J M hr⟩

theorem SeqB.cons {α β : Type} {R1 : Hp → α → List Value → Prop} {R2 : Hp → β → List Value → Prop} {ok1 : α → Prop} {ok2 : β → Prop} {t : TypeId} {s1 s2 off off' : Nat} {fs : List (TypeId × Nat)} (h : Bld P t s1 R1 ok1) (ho : off' = off + s1) (hs : SeqB P s2 R2 ok2 fs off') :
    SeqB P (s1 + s2) (fun M (x : α × β) vs => ∃ u v, vs = u ++ v ∧ R1 M x.1 u ∧ R2 M x.2 v) (fun x => ok1 x.1 ∧ ok2 x.2) ((t, off) :: fs) off := by
  refine ⟨by have := h.pos; omega, fun {M M' z vs} hp ⟨u, v, e, a, b⟩ => ⟨u, v, e, h.mono hp a, hs.mono hp b⟩, ?_⟩
  intro H enc w base held fuel cs hl hf hb J M hr
  obtain ⟨y, hy⟩ := hf (t, off) (by simp)
  have hl' : cs.length = off + (s1 + s2) := hl
  obtain ⟨J1, M1, vs1, z1, e1, r1, l1, o1, p1, k1⟩ := h.bld hy (fun a l c hm => hb a l c (List.mem_of_mem_drop (List.mem_of_mem_take hm))) J M hr
  obtain ⟨J2, M2, vs2, z2, e2, r2, l2, o2, p2, k2⟩ := hs.bld (by rw [ho]; omega) (fun f hff => hf f (List.mem_cons_of_mem _ hff)) hb J1 M1 r1
  refine ⟨J2, M2, vs1 ++ vs2, (z1, z2), e1.trans e2, r2, ?_, fun v hv => ?_, ⟨vs1, vs2, rfl, h.mono e2.1 p1, p2⟩, k1, k2⟩
  · have := (l1.keep e2.keep).append l2
    rw [h.cells, ho, ← List.drop_drop, List.take_append_drop] at this
    exact this
  · rcases List.mem_append.1 hv with hm | hm
    · exact o1 v hm
    · exact o2 v hm

theorem Bld.struct {α : Type} {R : Hp → α → List Value → Prop} {ok : α → Prop} {t : TypeId} {sz : Nat} {fs : Array Field} (ht : P.underlying t = some (.struct fs)) (hc : P.cellsOf t = sz) (hs : SeqB P sz R ok (fs.toList.map fun f => (f.type, f.offset)) 0) : Bld P t sz R ok := by
  refine ⟨hc, hs.pos, hs.mono, fun {H enc w base held fuel cs x} h hb J M hr => ?_⟩
  obtain ⟨xs, n, _, _, hl, hxl, hx⟩ := DataW.trod_struct ht h
  have := hs.bld (enc := enc) (w := w) (base := base) (held := held) (fuel := n) (cs := cs) (by rw [hl, hc]; omega) (fun y hy => by
    obtain ⟨fl, hfl, rfl⟩ := List.mem_map.1 hy
    obtain ⟨i, hi⟩ := List.getElem?_of_mem hfl
    have hi' : fs[i]? = some fl := by rw [← hi]; simp
    have := hx i fl hi'
    have hlt : i < xs.length := by
      have := (List.getElem?_eq_some_iff.1 hi).1
      simp at this
      omega
    rw [List.getElem?_eq_getElem hlt] at this
    exact ⟨_, this⟩) hb J M hr
  simpa using this

end
end Go.Proofs.Ytokicdkdllndpaa.Ev

/- A law's parameters, one by one, and the whole of it. -/
namespace Go.Proofs.Ytokicdkdllndpaa.Ev
set_option linter.all false
open Go Go.ChangeShapes Go.WideShapes Go.RowKit

structure ArgB {α : Type} (P : Program) (t : TypeId) (V : Hp → α → Value → Prop) (ok : α → Prop) : Prop where
  mono : ∀ {M M' : Hp} {z : α} {v : Value}, M <+: M' → V M z v → V M' z v
  arg : ∀ {H : Type} {enc : TypeId × Value → H} {w : World} {v : Value} {D : DataW H} {ps : List MemPlace} {base : Nat}, DataW.Trod enc P w 0 (fun _ => true) true t v D ps → Value.okWide P w .any base t v → ∀ (J : Inj) (M : Hp), RdRel J M w →
    ∃ (J' : Inj) (M' : Hp) (u : Value) (z : α), Ext J M J' M' ∧ RdRel J' M' w ∧ VRel J' M' u v ∧ V M' z u ∧ ok z

section
variable {P : Program}

theorem blk_of_shape {w : World} {r : Nat} {x : TypeId × Nat} (h : w.shape? r = some x) : Blk w := by
  unfold World.shape? at h
  split at h
  · rename_i c e q hc
    exact ⟨r, c, e, q.1, q.2, hc⟩
  · cases h

theorem cell_blk {w : World} {r : Reach} {base : Nat} {t : TypeId} {a : Addr} {l c : Nat} (h : Cell.okWide P w r base t (.slice (some a) l c)) : Blk w := by
  unfold Cell.okWide at h
  have h2 : Cell.ok P w r base t (.slice (some a) l c) := by
    revert h
    cases P.underlying t with
    | none => exact fun h => h
    | some d => cases d <;> exact fun h => h
  unfold Cell.ok at h2
  revert h2
  cases P.underlying t with
  | none => exact fun h => h.elim
  | some d => cases d <;> first | exact fun h => h.elim | exact fun h => by obtain ⟨_, _, _, _, row, cells, hs, _⟩ := h; exact blk_of_shape hs

theorem ArgB.one {α : Type} {R : Hp → α → List Value → Prop} {ok : α → Prop} {t : TypeId} (h : Bld P t 1 R ok) (hk : ∀ {w : World} {r : Reach} {base : Nat} {v : Value}, Value.okWide P w r base t v → v.cells = #[v] ∧ Cell.okWide P w r base t v) :
    ArgB P t (fun M z v => R M z [v]) ok :=
  ⟨h.mono, fun {H enc w v D ps base} hT hv J M hr => by
    obtain ⟨fuel, hf⟩ := hT
    obtain ⟨hc, hcell⟩ := hk hv
    rw [hc] at hf
    obtain ⟨J', M', vs, z, a1, a2, a3, a4, a5, a6⟩ := h.bld hf (fun a l c hm => by
      have h9 : Value.slice (some a) l c = v := by simpa using hm
      rw [← h9] at hcell
      exact cell_blk hcell) J M hr
    obtain ⟨u, rfl⟩ : ∃ u, vs = [u] := by
      have := a3.1
      cases vs with
      | nil => simp at this
      | cons y l => cases l with
        | nil => exact ⟨y, rfl⟩
        | cons z l => simp at this
    exact ⟨J', M', u, z, a1, a2, a3.2 0 u v rfl rfl, a5, a6⟩⟩

theorem ArgB.slice {α : Type} {R : Hp → α → List Value → Prop} {ok : α → Prop} {t e : TypeId} {sz : Nat} (ht : P.underlying t = some (.slice e)) (hc : P.cellsOf t = 1) (he : Bld P e sz R ok) :
    ArgB P t (fun M l v => Sl (R M) sz M v l) (fun l => l.length ≤ maxLen ∧ ∀ x ∈ l, ok x) := by
  have h := ArgB.one (Bld.slice ht hc he) (fun {w r base v} hv => by
    obtain ⟨a, len, cap, rfl⟩ := okWide_slice ht hv
    exact ⟨rfl, by unfold Value.okWide at hv; rw [ht] at hv; exact hv⟩)
  exact ⟨fun hp hs => by
    obtain ⟨v, e, h2⟩ := h.mono hp ⟨_, rfl, hs⟩
    cases e
    exact h2, fun hT hv J M hr => by
    obtain ⟨J', M', u, z, a1, a2, a3, ⟨v, e, h2⟩, a5⟩ := h.arg hT hv J M hr
    cases e
    exact ⟨J', M', u, z, a1, a2, a3, h2, a5⟩⟩

theorem ArgB.int {k : IntKind} {t : TypeId} (ht : P.underlying t = some (.int k)) (hc : P.cellsOf t = 1) : ArgB P t (fun _ n v => v = .int k n) (fun n => (Lit.int k n).wf = true) := by
  have h := ArgB.one (Bld.int ht hc) (fun {w r base v} hv => by
    obtain ⟨n, rfl⟩ := okWide_int ht hv
    exact ⟨rfl, by unfold Value.okWide at hv; rw [ht] at hv; exact hv⟩)
  exact ⟨fun _ h => h, fun hT hv J M hr => by
    obtain ⟨J', M', u, z, a1, a2, a3, a4, a5⟩ := h.arg hT hv J M hr
    exact ⟨J', M', u, z, a1, a2, a3, by simpa using a4, a5⟩⟩

theorem ArgB.bool {t : TypeId} (ht : P.underlying t = some .bool) (hc : P.cellsOf t = 1) : ArgB P t (fun _ b v => v = .bool b) (fun _ => True) := by
  have h := ArgB.one (Bld.bool ht hc) (fun {w r base v} hv => by
    obtain ⟨n, rfl⟩ := okWide_bool ht hv
    exact ⟨rfl, by unfold Value.okWide at hv; rw [ht] at hv; exact hv⟩)
  exact ⟨fun _ h => h, fun hT hv J M hr => by
    obtain ⟨J', M', u, z, a1, a2, a3, a4, a5⟩ := h.arg hT hv J M hr
    exact ⟨J', M', u, z, a1, a2, a3, by simpa using a4, a5⟩⟩

theorem ArgB.string {t : TypeId} (ht : P.underlying t = some .string) (hc : P.cellsOf t = 1) : ArgB P t (fun _ s v => v = .string s) (fun s => s.size ≤ maxLen) := by
  have h := ArgB.one (Bld.string ht hc) (fun {w r base v} hv => by
    obtain ⟨n, rfl⟩ := okWide_string ht hv
    exact ⟨rfl, by unfold Value.okWide at hv; rw [ht] at hv; exact hv⟩)
  exact ⟨fun _ h => h, fun hT hv J M hr => by
    obtain ⟨J', M', u, z, a1, a2, a3, a4, a5⟩ := h.arg hT hv J M hr
    exact ⟨J', M', u, z, a1, a2, a3, by simpa using a4, a5⟩⟩

theorem ArgB.struct {α : Type} {R : Hp → α → List Value → Prop} {ok : α → Prop} {t : TypeId} {sz : Nat} {fs : Array Field} (ht : P.underlying t = some (.struct fs)) (h : Bld P t sz R ok) :
    ArgB P t (fun M z v => ∃ vs, v = .agg vs ∧ R M z vs.toList) ok :=
  ⟨fun hp ⟨vs, e, hR⟩ => ⟨vs, e, h.mono hp hR⟩, fun {H enc w v D ps base} hT hv J M hr => by
    obtain ⟨fuel, hf⟩ := hT
    have hv2 := hv
    unfold Value.okWide at hv2
    rw [ht] at hv2
    obtain ⟨cs, rfl, hsz, ts, _, _, hcs⟩ := hv2
    obtain ⟨J', M', vs, z, a1, a2, a3, a4, a5, a6⟩ := h.bld hf (fun a l c hm => by
      obtain ⟨i, hi⟩ := List.getElem?_of_mem hm
      obtain ⟨u, _, hok⟩ := hcs i _ (by simpa [Value.cells] using hi)
      exact cell_blk hok) J M hr
    refine ⟨J', M', .agg vs.toArray, z, a1, a2, ?_, ⟨vs.toArray, rfl, a5⟩, a6⟩
    have hl := a3.1
    refine .agg _ _ (by simpa [Value.cells] using hl) (fun i x hx => a4 x (List.mem_of_getElem? (by simpa using hx))) fun i x y hx hy => a3.2 i x y (by simpa using hx) (by simpa [Value.cells] using hy)⟩

/-- The small machine's answer is Go's. -/
theorem law_run {E : Env} {hv : Nat → Nat → Bool} {J : Inj} {M : Hp} {w : World} {vs : List Value} {cs : Array Value} {f : Nat} (hmix : P.follows .mixedOrders = true) (hE : E.fns = fnsOf P hv) (hp : ∀ f, E.prim f = none) (hr : RdRel J M w) (hl : LRel J M vs cs.toList)
    (h : Fun E { wr := fun id => decide (M.length ≤ id), nr := false } f vs M fun r _ => r = .bool true) : Calls P f cs w fun e w' => e = .returned (.bool true) ∧ Below w.heap.size w w' := by
  obtain ⟨k, r, H', h1, rfl⟩ := h
  exact law_calls hmix hE (fun f p h => by rw [hp] at h; cases h) (fun f p h => by rw [hp] at h; cases h) h1 hr hl

end
end Go.Proofs.Ytokicdkdllndpaa.Ev

/- Growing a slice of one's own. -/
namespace Go.Proofs.Ytokicdkdllndpaa.Ev
set_option linter.all false
open Go

section
variable {m : Md} {α : Type} {R : α → List Value → Prop} {esz : Nat} {H : Hp} {v : Value} {l : List α}

theorem Sl.app {N n bytes : Nat} {l2 : List α} {cs : List Value} (h : Sl R esz H v l) (ho : OwnS N v) (hN : N ≤ H.length) (hw : ∀ id, N ≤ id → m.wr id = true) (hnr : m.nr = true → cs.all scal = true) (hpos : 0 < l2.length) (hcs : cs.length = l2.length * esz)
    (hr : ∀ (i : Nat) a, l2[i]? = some a → R a ((cs.drop (i * esz)).take esz)) (hb : (l.length + l2.length) * bytes ≤ Ev.room) (hb2 : l.length + l2.length ≤ Ev.room) :
    ∃ v' H', (∀ (s : St) (x y : X), s.H = H → exv s.ρ x = some v → srcOf H esz (ex s.ρ y) = some (l2.length, cs) → appK m s esz bytes x y = some (.val v', { s with H := H' })) ∧ Sl R esz H' v' (l ++ l2) ∧ OwnS N v' ∧
      (∀ j, j < H.length → j ∉ idsOf v → H'[j]? = H[j]?) ∧ H.length ≤ H'.length ∧ (∀ j ∈ idsOf v', j ∈ idsOf v ∨ H.length ≤ j) ∧ ∀ H0 : Hp, H0.length ≤ N → H0 <+: H → H0 <+: H' := by
  have hb3 : l.length + l2.length ≤ 9223372036854775807 := by unfold Ev.room at hb2; omega
  rcases ho with rfl | ⟨id, e, ln, cap, rfl, hid⟩
  · have hl : l = [] := by
      rcases h with ⟨_, h⟩ | ⟨_, _, _, _, h, _⟩
      · exact h
      · cases h
    subst hl
    simp only [List.length_nil, Nat.zero_add] at hb hb2 hb3
    refine ⟨.slice (some ⟨H.length, 0, some esz⟩) l2.length (l2.length * esz), H ++ [cs], fun s x y hH hx hy => ?_, .inr ⟨H.length, 0, l2.length * esz, cs, by simp, by simp, by omega, by simp, by simpa using hb3, fun i a hi => ?_⟩,
      .inr ⟨_, _, _, _, rfl, hN⟩, fun j hj _ => by rw [List.getElem?_append_left hj], by simp, fun j hj => ?_, fun H0 _ hp => pre_push hp⟩
    · unfold appK
      rw [hx, hH, hy]
      simp only
      rw [if_neg (by omega), if_pos ⟨hb, hb2⟩]
    · rw [Nat.zero_add]
      exact hr i a (by simpa using hi)
    · simp [idsOf] at hj
      exact .inr (by omega)
  · rcases h with ⟨h, _⟩ | ⟨id', off, cap', o, h, hg, hoc, hlc, hroom, hrr⟩
    · cases h
    cases h
    have hidl := (List.getElem?_eq_some_iff.1 hg).1
    have hwid := hw id hid
    have hold : ∀ (q : List Value), (∀ k, k < l.length * esz → q[k]? = o[k]?) → ∀ (i : Nat) a, l[i]? = some a → R a ((q.drop (0 + i * esz)).take esz) := fun q hq i a hi => by
      have hil := (List.getElem?_eq_some_iff.1 hi).1
      have hm : (i + 1) * esz ≤ l.length * esz := Nat.mul_le_mul_right _ hil
      rw [Nat.succ_mul] at hm
      have : (q.drop (0 + i * esz)).take esz = (o.drop (0 + i * esz)).take esz := by
        refine List.ext_getElem? fun k => ?_
        rw [take_drop_get, take_drop_get]
        by_cases hk : k < esz
        · rw [if_pos hk, if_pos hk, hq _ (by omega)]
        · rw [if_neg hk, if_neg hk]
      rw [this]
      exact hrr i a hi
    have hnew : ∀ (q : List Value), (∀ k, k < cs.length → q[l.length * esz + k]? = cs[k]?) → ∀ (i : Nat) a, l2[i]? = some a → R a ((q.drop (0 + (l.length + i) * esz)).take esz) := fun q hq i a hi => by
      have hil := (List.getElem?_eq_some_iff.1 hi).1
      have hm : (i + 1) * esz ≤ l2.length * esz := Nat.mul_le_mul_right _ hil
      rw [Nat.succ_mul] at hm
      have : (q.drop (0 + (l.length + i) * esz)).take esz = (cs.drop (i * esz)).take esz := by
        refine List.ext_getElem? fun k => ?_
        rw [take_drop_get, take_drop_get]
        by_cases hk : k < esz
        · rw [if_pos hk, if_pos hk, Nat.zero_add, Nat.add_mul, Nat.add_assoc, hq _ (by omega)]
        · rw [if_neg hk, if_neg hk]
      rw [this]
      exact hr i a hi
    have both : ∀ (q : List Value), (∀ k, k < l.length * esz → q[k]? = o[k]?) → (∀ k, k < cs.length → q[l.length * esz + k]? = cs[k]?) → ∀ (i : Nat) a, (l ++ l2)[i]? = some a → R a ((q.drop (0 + i * esz)).take esz) := fun q h1 h2 i a hi => by
      by_cases hil : i < l.length
      · rw [List.getElem?_append_left hil] at hi
        exact hold q h1 i a hi
      · rw [List.getElem?_append_right (by omega)] at hi
        have := hnew q h2 _ a hi
        rw [show l.length + (i - l.length) = i by omega] at this
        exact this
    by_cases hfit : (l.length + l2.length) * esz ≤ cap
    · have hfit' : l.length * esz + cs.length ≤ cap := by rw [hcs, ← Nat.add_mul]; exact hfit
      refine ⟨.slice (some ⟨id, 0, some esz⟩) (l.length + l2.length) cap, H.set id (spl o (0 + l.length * esz) cs), fun s x y hH hx hy => ?_, .inr ⟨id, 0, cap, _, by rw [List.length_append], by rw [List.getElem?_set_self hidl], by rw [spl_length]; exact hoc, by rw [List.length_append]; exact hfit, by rw [List.length_append]; exact hb3,
        both _ (fun k hk => ?_) (fun k hk => ?_)⟩, .inr ⟨_, _, _, _, rfl, hid⟩, fun j hj hne => ?_, by simp, fun j hj => .inl hj, fun H0 h0 hp => pre_set hp (by omega)⟩
      · unfold appK
        rw [hx, hH, hy]
        simp only
        rw [if_neg (by omega), hg]
        simp only
        rw [if_pos ⟨trivial, hoc, hwid, hnr⟩, if_pos hfit]
      · rw [spl_get, if_neg (by omega)]
      · rw [spl_get, if_pos (by omega), if_pos (by omega)]
        congr 1
        omega
      · rw [List.getElem?_set_ne]
        simp [idsOf] at hne
        omega
    · have htl : (o.take (l.length * esz)).length = l.length * esz := by rw [List.length_take]; omega
      refine ⟨.slice (some ⟨id, 0, some esz⟩) (l.length + l2.length) ((l.length + l2.length) * esz), H.set id (o.take (l.length * esz) ++ cs), fun s x y hH hx hy => ?_, .inr ⟨id, 0, _, _, by rw [List.length_append], by rw [List.getElem?_set_self hidl], by rw [List.length_append, htl, hcs, ← Nat.add_mul, Nat.zero_add], by rw [List.length_append]; exact Nat.le_refl _, by rw [List.length_append]; exact hb3,
        both _ (fun k hk => ?_) (fun k hk => ?_)⟩, .inr ⟨_, _, _, _, rfl, hid⟩, fun j hj hne => ?_, by simp, fun j hj => .inl hj, fun H0 h0 hp => pre_set hp (by omega)⟩
      · unfold appK
        rw [hx, hH, hy]
        simp only
        rw [if_neg (by omega), hg]
        simp only
        rw [if_pos ⟨trivial, hoc, hwid, hnr⟩, if_neg hfit, if_pos ⟨trivial, by omega, hb, hb2⟩]
      · rw [List.getElem?_append_left (by omega), List.getElem?_take, if_pos hk]
      · rw [List.getElem?_append_right (by omega), htl, show l.length * esz + k - l.length * esz = k by omega]
      · rw [List.getElem?_set_ne]
        simp [idsOf] at hne
        omega

theorem Sl.src (h : Sl R esz H v l) : ∃ cs, srcOf H esz (.val v) = some (l.length, cs) ∧ cs.length = l.length * esz ∧ ∀ (i : Nat) a, l[i]? = some a → R a ((cs.drop (i * esz)).take esz) := by
  rcases h with ⟨rfl, rfl⟩ | ⟨id, off, cap, o, rfl, hg, hoc, hlc, hroom, hrr⟩
  · exact ⟨[], rfl, by simp, fun i a hi => by simp at hi⟩
  · refine ⟨(o.drop off).take (l.length * esz), ?_, by rw [List.length_take, List.length_drop]; omega, fun i a hi => ?_⟩
    · simp only [srcOf, rowOf, hg]
      rw [if_pos hoc]
      simp only
      rw [if_pos ⟨trivial, by omega⟩]
    · have hil := (List.getElem?_eq_some_iff.1 hi).1
      have hm : (i + 1) * esz ≤ l.length * esz := Nat.mul_le_mul_right _ hil
      rw [Nat.succ_mul] at hm
      have : (((o.drop off).take (l.length * esz)).drop (i * esz)).take esz = (o.drop (off + i * esz)).take esz := by
        refine List.ext_getElem? fun k => ?_
        rw [take_drop_get ((o.drop off).take (l.length * esz)) (i * esz) esz k, take_drop_get o (off + i * esz) esz k]
        by_cases hk : k < esz
        · rw [if_pos hk, if_pos hk, take_drop_get, if_pos (by omega), Nat.add_assoc]
        · rw [if_neg hk, if_neg hk]
      rw [this]
      exact hrr i a hi

theorem Sl.copy {bytes : Nat} (h : Sl R esz H v l) (hb : l.length * bytes ≤ Ev.room) (hb2 : l.length ≤ Ev.room) :
    ∃ v' H', (∀ (s : St) (x y : X), s.H = H → exv s.ρ x = some (.slice none 0 0) → ex s.ρ y = .val v → appK m s esz bytes x y = some (.val v', { s with H := H' })) ∧ H <+: H' ∧ Sl R esz H' v' l ∧ OwnS H.length v' := by
  obtain ⟨cs, h1, h2, h3⟩ := h.src
  by_cases h0 : l.length = 0
  · have hl : l = [] := List.eq_nil_of_length_eq_zero h0
    subst hl
    refine ⟨.slice none 0 0, H, fun s x y hH hx hy => ?_, List.prefix_refl _, .inl ⟨rfl, rfl⟩, .inl rfl⟩
    subst hH
    unfold appK
    rw [hx, hy, h1]
    rfl
  · refine ⟨.slice (some ⟨H.length, 0, some esz⟩) l.length (l.length * esz), H ++ [cs], fun s x y hH hx hy => ?_, List.prefix_append _ _, .inr ⟨H.length, 0, l.length * esz, cs, rfl, by simp, by omega, Nat.le_refl _, by unfold Ev.room at hb2; omega, fun i a hi => ?_⟩, .inr ⟨_, _, _, _, rfl, Nat.le_refl _⟩⟩
    · unfold appK
      rw [hx, hH, hy, h1]
      simp only
      rw [if_neg h0, if_pos ⟨hb, hb2⟩]
    · rw [Nat.zero_add]
      exact h3 i a hi

end
end Go.Proofs.Ytokicdkdllndpaa.Ev

/- slices.Sort of whole numbers, by its contract off the kit's shelf. -/
namespace Go.Proofs.Ytokicdkdllndpaa.Ev
set_option linter.all false
open Go

end Go.Proofs.Ytokicdkdllndpaa.Ev

/- Functions that are told by themselves: the calls, and the law's row. -/
namespace Go.Proofs.Ytokicdkdllndpaa.Ev
set_option linter.all false
open Go RowKit

theorem Fun.prim {E : Env} {m : Md} {f : Nat} {vs : List Value} {H H' : Hp} {r : Value} {p : Md → List Value → Hp → Option (Value × Hp)} {Q : Value → Hp → Prop} (hp : E.prim f = some p) (h : p m vs H = some (r, H')) (hq : Q r H') : Fun E m f vs H Q :=
  ⟨1, r, H', by rw [evF, hp]; exact h, hq⟩

end Go.Proofs.Ytokicdkdllndpaa.Ev

/- Numbers that rise: plain. -/
namespace Go.Proofs.Ytokicdkdllndpaa.Ev
set_option linter.all false
open Go

end Go.Proofs.Ytokicdkdllndpaa.Ev

/- The rest of a slice; what lies behind a place, cleared. -/
namespace Go.Proofs.Ytokicdkdllndpaa.Ev
set_option linter.all false
open Go

section
variable {m : Md} {α : Type} {R : α → List Value → Prop} {esz : Nat} {H : Hp} {v : Value} {l : List α}

theorem Sl.drop (h : Sl R esz H v l) {i : Nat} (hi : i ≤ l.length) : ∃ v', (∀ (s : St) (x y : X), exv s.ρ x = some v → exv s.ρ y = some (.int .i64 i) → slcK s esz x (some y) none = some (.val v', s)) ∧
    (∀ j ∈ idsOf v', j ∈ idsOf v) ∧ ∀ (H' : Hp) (l' : List α), l'.length = l.length → Sl R esz H' v l' → Sl R esz H' v' (l'.drop i) := by
  rcases h with ⟨rfl, rfl⟩ | ⟨id, off, cap, o, rfl, ho, hc, hn, hrm, hr⟩
  · simp at hi
    subst hi
    refine ⟨.slice none 0 0, fun s x y hx hy => ?_, fun j hj => hj, fun H' l' hl h => by rw [List.eq_nil_of_length_eq_zero hl] at h ⊢; exact h⟩
    simp only [slcK, bnd, hx, hy]
    rfl
  · have hm : i * esz ≤ l.length * esz := Nat.mul_le_mul_right _ hi
    refine ⟨.slice (some ⟨id, off + i * esz, some esz⟩) (l.length - i) (cap - i * esz), fun s x y hx hy => ?_, fun j hj => hj, fun H' l' hl h => ?_⟩
    · simp only [slcK, bnd, hx, hy]
      rw [if_pos ⟨trivial, by omega, by omega, .inl (by omega), by simp; omega⟩]
      simp [St.val]
    · rcases h with ⟨h, _⟩ | ⟨id', off', cap', o', h, ho', hc', hn', hrm', hr'⟩
      · cases h
      · rw [← hl] at h
        cases h
        have hm' : i * esz ≤ l'.length * esz := Nat.mul_le_mul_right _ (by omega)
        refine .inr ⟨id, off + i * esz, cap - i * esz, o', by rw [List.length_drop, hl], ho', by omega, ?_, by rw [List.length_drop]; omega, fun j a hj => ?_⟩
        · rw [List.length_drop, Nat.sub_mul]; omega
        · rw [List.getElem?_drop] at hj
          have := hr' _ a hj
          rw [show off + i * esz + j * esz = off + (i + j) * esz by rw [Nat.add_mul]; omega]
          exact this

theorem Sl.cut (h : Sl R esz H v l) {i : Nat} (hi : i ≤ l.length) {zero : List Value} (hz : zero.length = esz) (hzs : zero.all scal = true) (hw : ∀ id ∈ idsOf v, m.wr id = true) : ∃ v3 v2 H', (∀ (s : St) (x y : X), exv s.ρ x = some v → exv s.ρ y = some (.int .i64 i) → slcK s esz x (some y) none = some (.val v3, s)) ∧
    (∀ (s : St) (x : X), s.H = H → exv s.ρ x = some v3 → clrK m s esz zero x = some (.val (.tuple #[]), { s with H := H' })) ∧
    (∀ (s : St) (x y : X), exv s.ρ x = some v → exv s.ρ y = some (.int .i64 i) → slcK s esz x none (some y) = some (.val v2, s)) ∧ Sl R esz H' v2 (l.take i) ∧ (∀ N, OwnS N v → OwnS N v2) ∧ (∀ j, j ∉ idsOf v → H'[j]? = H[j]?) ∧ H'.length = H.length ∧ ∀ j ∈ idsOf v2, j ∈ idsOf v := by
  rcases h with ⟨rfl, rfl⟩ | ⟨id, off, cap, o, rfl, ho, hc, hn, hrm, hr⟩
  · simp at hi
    subst hi
    refine ⟨.slice none 0 0, .slice none 0 0, H, fun s x y hx hy => ?_, fun s x hH hx => ?_, fun s x y hx hy => ?_, .inl ⟨rfl, by simp⟩, fun N h => h, fun _ _ => rfl, rfl, fun j hj => hj⟩
    · simp only [slcK, bnd, hx, hy]
      rfl
    · subst hH
      simp only [clrK, hx]
      rfl
    · simp only [slcK, bnd, hx, hy]
      rfl
  · have hm : i * esz ≤ l.length * esz := Nat.mul_le_mul_right _ hi
    have hidl := (List.getElem?_eq_some_iff.1 ho).1
    refine ⟨.slice (some ⟨id, off + i * esz, some esz⟩) (l.length - i) (cap - i * esz), .slice (some ⟨id, off, some esz⟩) i cap, H.set id (spl o (off + i * esz) (zeros (l.length - i) zero)), fun s x y hx hy => ?_, fun s x hH hx => ?_, fun s x y hx hy => ?_, .inr ⟨id, off, cap, _, by rw [List.length_take, Nat.min_eq_left hi], List.getElem?_set_self hidl, by rw [spl_length]; exact hc, by rw [List.length_take, Nat.min_eq_left hi]; omega, by rw [List.length_take]; omega, fun j a hj => ?_⟩, fun N h => ?_, fun j hj => ?_, by simp, fun j hj => hj⟩
    · simp only [slcK, bnd, hx, hy]
      rw [if_pos ⟨trivial, by omega, by omega, .inl (by omega), by simp; omega⟩]
      simp [St.val]
    · subst hH
      simp only [clrK, hx, ho]
      rw [if_pos ⟨trivial, by omega, hw id (by simp [idsOf]), hzs, by rw [Nat.sub_mul]; omega⟩]
    · simp only [slcK, bnd, hx, hy]
      rw [if_pos ⟨trivial, by omega, by omega, .inl (by omega), by simp⟩]
      simp [St.val]
    · rw [List.getElem?_take] at hj
      split at hj
      · rename_i hji
        have hm2 : (j + 1) * esz ≤ i * esz := Nat.mul_le_mul_right _ hji
        rw [Nat.succ_mul] at hm2
        rw [spl_other (.inl (by omega))]
        exact hr j a hj
      · cases hj
    · rcases h with h | ⟨id', e, ln, cp, h, hN⟩
      · cases h
      · cases h
        exact .inr ⟨_, _, _, _, rfl, hN⟩
    · rw [List.getElem?_set_ne]
      simp [idsOf] at hj
      omega
end
end Go.Proofs.Ytokicdkdllndpaa.Ev

/- Ways that come together again; calls that may write what they are handed. -/
namespace Go.Proofs.Ytokicdkdllndpaa.Ev
set_option linter.all false
open Go

section
variable {E : Env} {m : Md} {s : St} {Q : Ex → St → Prop} {ts : List Tk}

end
end Go.Proofs.Ytokicdkdllndpaa.Ev

/- Bytes and the numbers that are written in them: plain. -/
namespace Go.Proofs.Ytokicdkdllndpaa.Ev
set_option linter.all false
open Go

/-- A text of bytes that are told as numbers. -/
def strOf (l : List Nat) : ByteArray := ⟨(l.map UInt8.ofNat).toArray⟩
theorem strOf_size (l : List Nat) : (strOf l).size = l.length := by simp [strOf, ByteArray.size]
theorem strOf_get {l : List Nat} {i : Nat} : (strOf l)[i]? = (l[i]?).map UInt8.ofNat := by
  show (strOf l).data[i]? = _ 
  simp [strOf]

def varL (n : Nat) : List Nat := if n < 128 then [n] else (n % 128 + 128) :: varL (n / 128)
termination_by n

theorem varL_lt {n : Nat} (h : n < 128) : varL n = [n] := by rw [varL, if_pos h]
theorem varL_ge {n : Nat} (h : ¬ n < 128) : varL n = (n % 128 + 128) :: varL (n / 128) := by rw [varL, if_neg h]

def varB (n : Int) : ByteArray := if 0 ≤ n ∧ n ≤ 562949953421311 then strOf (varL n.toNat) else ByteArray.empty

theorem varL_pos : ∀ n : Nat, 0 < (varL n).length := fun n => by
  rw [varL]; split <;> simp

/-- So long at most. -/
theorem varL_len : ∀ (k n : Nat), n < 128 ^ (k + 1) → (varL n).length ≤ k + 1
  | 0, n, h => by rw [varL_lt (by simpa using h)]; simp
  | k + 1, n, h => by
    by_cases h1 : n < 128
    · rw [varL_lt h1]; simp
    · rw [varL_ge h1]
      have := varL_len k (n / 128) (by rw [Nat.div_lt_iff_lt_mul (by decide)]; rw [Nat.pow_succ] at h; exact h)
      simp; omega

/-- All but the last have their highest bit; the last hasn't. -/
theorem varL_bits : ∀ (n : Nat) (i b : Nat), (varL n)[i]? = some b → b < 256 ∧ (i + 1 < (varL n).length → 128 ≤ b) ∧ (i + 1 = (varL n).length → b < 128) := fun n => by
  induction n using Nat.strongRecOn with
  | _ n ih =>
    intro i b hb
    by_cases h : n < 128
    · rw [varL_lt h] at hb ⊢
      cases i with
      | zero => simp at hb; subst hb; exact ⟨by omega, by simp, fun _ => h⟩
      | succ i => simp at hb
    · rw [varL_ge h] at hb ⊢
      cases i with
      | zero =>
        simp at hb
        subst hb
        refine ⟨by omega, fun _ => by omega, fun h2 => ?_⟩
        have := varL_pos (n / 128)
        simp only [List.length_cons] at h2
        omega
      | succ i =>
        rw [List.getElem?_cons_succ] at hb
        have := ih (n / 128) (by omega) i b hb
        refine ⟨this.1, fun h2 => this.2.1 (by simp at h2; omega), fun h2 => this.2.2 (by simp at h2; omega)⟩

/-- What so many bytes say. -/
def valB (s : ByteArray) : Nat → Nat
  | 0 => 0
  | k + 1 => valB s k + (match s[k]? with | some b => b.toNat % 128 | none => 0) * 128 ^ k

theorem valB_lt (s : ByteArray) : ∀ k, valB s k < 128 ^ k
  | 0 => by simp [valB]
  | k + 1 => by
    have := valB_lt s k
    rw [valB, Nat.pow_succ]
    generalize hd : (match s[k]? with | some b => b.toNat % 128 | none => 0) = d
    have h2 : d ≤ 127 := by
      subst hd
      split
      · exact Nat.le_of_lt_succ (Nat.mod_lt _ (by decide))
      · exact Nat.zero_le _
    have h3 := Nat.mul_le_mul_right (128 ^ k) h2
    generalize d * 128 ^ k = q at h3
    omega

/-- Is that the number's text? -/
def isV (s : ByteArray) (k : Nat) : Prop := varB (valB s k) = s.extract 0 k

theorem extract_get {s : ByteArray} {k i : Nat} (hk : k ≤ s.size) (hi : i < k) : (s.extract 0 k)[i]? = s[i]? := by
  show (s.extract 0 k).data[i]? = s.data[i]?
  rw [ByteArray.data_extract, Array.getElem?_extract]
  have : s.data.size = s.size := rfl
  simp
  omega

theorem isV_bits {s : ByteArray} {k : Nat} (h0 : 0 < k) (hk : k ≤ s.size) (h : isV s k) : (∀ i b, i + 1 < k → s[i]? = some b → 128 ≤ b.toNat) ∧ (∀ b, s[k - 1]? = some b → b.toNat < 128) := by
  unfold isV varB at h
  have hsz : (s.extract 0 k).size = k := by rw [ByteArray.size_extract]; omega
  split at h
  · have hlen : (varL (Int.toNat (valB s k : Int))).length = k := by rw [← strOf_size, h, hsz]
    have get : ∀ i b, i < k → s[i]? = some b → ∃ c, (varL (Int.toNat (valB s k : Int)))[i]? = some c ∧ b.toNat = c := fun i b hi hb => by
      rw [← extract_get hk hi, ← h, strOf_get] at hb
      cases hc : (varL (Int.toNat (valB s k : Int)))[i]? with
      | none => rw [hc] at hb; cases hb
      | some c =>
        rw [hc] at hb
        simp at hb
        subst hb
        have := (varL_bits _ i c hc).1
        exact ⟨c, rfl, by simp; omega⟩
    refine ⟨fun i b hi hb => ?_, fun b hb => ?_⟩
    · obtain ⟨c, hc, e⟩ := get i b (by omega) hb
      rw [e]
      exact (varL_bits _ i c hc).2.1 (by omega)
    · obtain ⟨c, hc, e⟩ := get (k - 1) b (by omega) hb
      rw [e]
      exact (varL_bits _ (k - 1) c hc).2.2 (by omega)
  · exfalso
    have : (s.extract 0 k).size = 0 := by rw [← h]; rfl
    omega

/-- The number that a text begins with, and how many bytes it has; none without one. -/
def readV (s : ByteArray) (n k : Nat) : Prop := 1 ≤ k ∧ k ≤ 7 ∧ k ≤ s.size ∧ n = valB s k ∧ isV s k
theorem readV.unique {s : ByteArray} {n k n' k' : Nat} (h : readV s n k) (h' : readV s n' k') : n = n' ∧ k = k' := by
  obtain ⟨a1, a2, a3, a4, a5⟩ := h
  obtain ⟨b1, b2, b3, b4, b5⟩ := h'
  have hk : k = k' := by
    rcases Nat.lt_trichotomy k k' with e | e | e
    · have h1 := (isV_bits a1 a3 a5).2
      have h2 := (isV_bits b1 b3 b5).1 (k - 1)
      obtain ⟨b, hb⟩ : ∃ b, s[k - 1]? = some b := ⟨_, getElem?_pos s (k - 1) (by show k - 1 < s.size; omega)⟩
      have := h1 b hb
      have := h2 b (by omega) hb
      omega
    · exact e
    · have h1 := (isV_bits b1 b3 b5).2
      have h2 := (isV_bits a1 a3 a5).1 (k' - 1)
      obtain ⟨b, hb⟩ : ∃ b, s[k' - 1]? = some b := ⟨_, getElem?_pos s (k' - 1) (by show k' - 1 < s.size; omega)⟩
      have := h1 b hb
      have := h2 b (by omega) hb
      omega
  subst hk
  exact ⟨a4.trans b4.symm, rfl⟩

open Classical in
/-- .. as numbers: 0, 0 without one. -/
noncomputable def rdV (s : ByteArray) : Nat × Nat := if h : ∃ p : Nat × Nat, readV s p.1 p.2 then Classical.choose h else (0, 0)
theorem rdV_eq {s : ByteArray} {n k : Nat} (h : readV s n k) : rdV s = (n, k) := by
  unfold rdV
  rw [dif_pos ⟨(n, k), h⟩]
  have := Classical.choose_spec (⟨(n, k), h⟩ : ∃ p : Nat × Nat, readV s p.1 p.2)
  have := this.unique h
  exact Prod.ext this.1 this.2
theorem rdV_none {s : ByteArray} (h : ∀ n k, ¬ readV s n k) : rdV s = (0, 0) := by
  unfold rdV
  rw [dif_neg (fun ⟨p, hp⟩ => h _ _ hp)]
end Go.Proofs.Ytokicdkdllndpaa.Ev

/- Terms: plain. -/
namespace Go.Proofs.Ytokicdkdllndpaa.Ev
set_option linter.all false
open Go

/-- The text from a place on. -/
def rest (s : ByteArray) (at_ : Nat) : ByteArray := s.extract at_ s.size
theorem rest_size (s : ByteArray) (a : Nat) : (rest s a).size = s.size - a := by simp [rest]

theorem rdV_cases (s : ByteArray) : (rdV s = (0, 0)) ∨ ∃ n k, rdV s = (n, k) ∧ readV s n k := by
  by_cases h : ∃ p : Nat × Nat, readV s p.1 p.2
  · obtain ⟨⟨n, k⟩, h⟩ := h
    exact .inr ⟨n, k, rdV_eq h, h⟩
  · exact .inl (rdV_none fun n k h2 => h ⟨(n, k), h2⟩)

theorem readV.max {s : ByteArray} {n k : Nat} (h : readV s n k) : n ≤ 562949953421311 := by
  obtain ⟨h1, h2, h3, h4, h5⟩ := h
  have := valB_lt s k
  have h6 : 128 ^ k ≤ 128 ^ 7 := Nat.pow_le_pow_right (by decide) h2
  have h7 : (128 : Nat) ^ 7 = 562949953421312 := by decide
  omega

/-- The number read and its size are small; it lies in the text. -/
theorem rdV_le (s : ByteArray) : (rdV s).1 ≤ 562949953421311 ∧ (rdV s).2 ≤ 7 ∧ (rdV s).2 ≤ s.size := by
  rcases rdV_cases s with h | ⟨n, k, h, hr⟩
  · rw [h]; simp
  · rw [h]
    exact ⟨hr.max, hr.2.1, hr.2.2.1⟩

theorem varB_size (n : Int) : (varB n).size ≤ 7 := by
  unfold varB
  split
  · rename_i h
    rw [strOf_size]
    refine varL_len 6 _ ?_
    have h7 : (128 : Nat) ^ (6 + 1) = 562949953421312 := by decide
    omega
  · simp

end Go.Proofs.Ytokicdkdllndpaa.Ev

/- Rows of bytes, and the texts made of them. -/
namespace Go.Proofs.Ytokicdkdllndpaa.Ev
set_option linter.all false
open Go

def eN (n : Nat) : List Value := [.int .u8 (n : Int)]
abbrev SlN (H : Hp) (v : Value) (l : List Nat) : Prop := Sl (En eN) 1 H v l

theorem Sl.oneN {m : Md} {N : Nat} {H : Hp} {v : Value} {l : List Nat} (a : Nat) (h : SlN H v l) (ho : OwnS N v) (hN : N ≤ H.length) (hw : ∀ id, N ≤ id → m.wr id = true) (hb : l.length < 1048576) :
    ∃ v' H', (∀ (s : St) (x y : X), s.H = H → exv s.ρ x = some v → ex s.ρ y = .vs 1 [.int .u8 (a : Int)] → appK m s 1 1 x y = some (.val v', { s with H := H' })) ∧ SlN H' v' (l ++ [a]) ∧ OwnS N v' ∧
      (∀ j, j < H.length → j ∉ idsOf v → H'[j]? = H[j]?) ∧ H.length ≤ H'.length ∧ (∀ j ∈ idsOf v', j ∈ idsOf v ∨ H.length ≤ j) ∧ ∀ H0 : Hp, H0.length ≤ N → H0 <+: H → H0 <+: H' := by
  obtain ⟨v', H', h1, h2⟩ := h.app (m := m) (n := 1) (bytes := 1) (l2 := [a]) (cs := [.int .u8 (a : Int)]) ho hN hw (fun _ => rfl) (by simp) rfl (fun i b hi => by
    cases i with
    | zero => simp at hi; subst hi; rfl
    | succ i => simp at hi) (by unfold Ev.room; simp; omega) (by unfold Ev.room; simp; omega)
  exact ⟨v', H', fun s x y hH hx hy => h1 s x y hH hx (by rw [hy]; rfl), h2⟩

theorem bytesOf_map : ∀ {l : List Nat}, (∀ n ∈ l, n < 256) → bytesOf (l.map fun (n : Nat) => Value.int .u8 (n : Int)) = some (l.map UInt8.ofNat)
  | [], _ => rfl
  | a :: l, h => by
    have ih := bytesOf_map (l := l) fun n hn => h n (List.mem_cons_of_mem _ hn)
    have ha := h a (by simp)
    simp only [List.map_cons, bytesOf, ih, byteOf, Int.toNat_natCast]

theorem Sl.b2s {H : Hp} {v : Value} {l : List Nat} (h : SlN H v l) (hl : ∀ n ∈ l, n < 256) : ∀ (s : St) (x : X), s.H = H → ex s.ρ x = .val v → b2sK s x = some (.val (.string (strOf l)), s) := by
  obtain ⟨cs, h1, h2, h3⟩ := h.src
  intro s x hH hx
  have hcs : cs = l.map fun (n : Nat) => Value.int .u8 (n : Int) := by
    refine List.ext_getElem? fun j => ?_
    rw [List.getElem?_map]
    by_cases hj : j < l.length
    · have := h3 j _ (List.getElem?_eq_getElem hj)
      unfold En eN at this
      have h4 := getElem?_of_take this (j := 0) (by omega)
      rw [Nat.mul_one, Nat.add_zero] at h4
      rw [h4, List.getElem?_eq_getElem hj]
      rfl
    · rw [List.getElem?_eq_none (by omega), List.getElem?_eq_none (by omega)]
      rfl
  unfold b2sK
  rw [hx, hH, h1]
  simp only
  rw [hcs, bytesOf_map hl]
  rfl

theorem wrap8 (n : Int) (h0 : 0 ≤ n) (h1 : n < 256) : IntKind.u8.wrap n = n := by
  simp [IntKind.wrap, IntKind.bits, IntKind.signed]
  omega

theorem own_newN {H : Hp} : SlN (H ++ [[]]) (.slice (some ⟨H.length, 0, some 1⟩) 0 (0 * 1)) [] := .inr ⟨H.length, 0, 0, [], rfl, by simp, by simp, by simp, by simp, fun i a hi => by simp at hi⟩

theorem and7 {k : Nat} (h : k < 9223372036854775808) : IntKind.i64.wrap ((BitVec.ofInt IntKind.i64.bits (k : Int) &&& BitVec.ofInt IntKind.i64.bits 127).toNat : Int) = ((k % 128 : Nat) : Int) := by
  have h1 : (BitVec.ofInt IntKind.i64.bits (k : Int) &&& BitVec.ofInt IntKind.i64.bits 127).toNat = k % 128 := by
    show (BitVec.ofInt 64 (k : Int) &&& BitVec.ofInt 64 127).toNat = _
    rw [BitVec.toNat_and, BitVec.toNat_ofInt, BitVec.toNat_ofInt]
    have e1 : ((k : Int) % ((2 ^ 64 : Nat) : Int)).toNat = k := by
      rw [Int.emod_eq_of_lt (by omega) (by omega)]
      simp
    rw [e1]
    exact Nat.and_two_pow_sub_one_eq_mod k 7
  rw [h1, wrap64 _ (by omega) (by omega)]

theorem or128 {k : Nat} (h : k < 128) : IntKind.i64.wrap ((BitVec.ofInt IntKind.i64.bits (k : Int) ||| BitVec.ofInt IntKind.i64.bits 128).toNat : Int) = ((k + 128 : Nat) : Int) := by
  have h1 : (BitVec.ofInt IntKind.i64.bits (k : Int) ||| BitVec.ofInt IntKind.i64.bits 128).toNat = k + 128 := by
    show (BitVec.ofInt 64 (k : Int) ||| BitVec.ofInt 64 128).toNat = _
    rw [BitVec.toNat_or, BitVec.toNat_ofInt, BitVec.toNat_ofInt]
    have e1 : ((k : Int) % ((2 ^ 64 : Nat) : Int)).toNat = k := by
      rw [Int.emod_eq_of_lt (by omega) (by omega)]
      simp
    rw [e1]
    show k ||| 128 = k + 128
    have := Nat.two_pow_add_eq_or_of_lt (i := 7) (b := k) (by omega) 1
    rw [Nat.or_comm]
    simp at this
    omega
  rw [h1, wrap64 _ (by omega) (by omega)]

/-- Lower bits of a byte. -/
theorem and7u {b : Nat} (h : b < 256) : IntKind.u8.wrap ((BitVec.ofInt IntKind.u8.bits (b : Int) &&& BitVec.ofInt IntKind.u8.bits 127).toNat : Int) = ((b % 128 : Nat) : Int) := by
  have h1 : (BitVec.ofInt IntKind.u8.bits (b : Int) &&& BitVec.ofInt IntKind.u8.bits 127).toNat = b % 128 := by
    show (BitVec.ofInt 8 (b : Int) &&& BitVec.ofInt 8 127).toNat = _
    rw [BitVec.toNat_and, BitVec.toNat_ofInt, BitVec.toNat_ofInt]
    have e1 : ((b : Int) % ((2 ^ 8 : Nat) : Int)).toNat = b := by
      rw [Int.emod_eq_of_lt (by omega) (by omega)]
      simp
    rw [e1]
    exact Nat.and_two_pow_sub_one_eq_mod b 7
  rw [h1, wrap8 _ (by omega) (by omega)]

/-- Bits above bits. -/
theorem orHi {n b k : Nat} (hn : n < 128 ^ k) (hb : b < 128) (hk : k ≤ 6) : IntKind.i64.wrap ((BitVec.ofInt IntKind.i64.bits (n : Int) ||| BitVec.ofInt IntKind.i64.bits ((b * 128 ^ k : Nat) : Int)).toNat : Int) = ((n + b * 128 ^ k : Nat) : Int) := by
  have hp : (128 : Nat) ^ k ≤ 128 ^ 6 := Nat.pow_le_pow_right (by decide) hk
  have h6 : (128 : Nat) ^ 6 = 4398046511104 := by decide
  have hm : b * 128 ^ k ≤ 127 * 128 ^ k := Nat.mul_le_mul_right _ (by omega)
  have hm2 : n + b * 128 ^ k < 9223372036854775808 := by
    generalize b * 128 ^ k = q at *
    omega
  have h1 : (BitVec.ofInt IntKind.i64.bits (n : Int) ||| BitVec.ofInt IntKind.i64.bits ((b * 128 ^ k : Nat) : Int)).toNat = n + b * 128 ^ k := by
    show (BitVec.ofInt 64 (n : Int) ||| BitVec.ofInt 64 ((b * 128 ^ k : Nat) : Int)).toNat = _
    rw [BitVec.toNat_or, BitVec.toNat_ofInt, BitVec.toNat_ofInt]
    have e0 : ∀ x : Nat, x < 9223372036854775808 → ((x : Int) % ((2 ^ 64 : Nat) : Int)).toNat = x := fun x hx => by
      rw [Int.emod_eq_of_lt (by omega) (by omega)]
      simp
    rw [e0 n (by omega), e0 _ (by generalize b * 128 ^ k = q at *; omega)]
    have hpow : (128 : Nat) ^ k = 2 ^ (7 * k) := by rw [show (128 : Nat) = 2 ^ 7 by decide, ← Nat.pow_mul]
    rw [hpow] at hn ⊢
    have := Nat.two_pow_add_eq_or_of_lt hn b
    rw [Nat.or_comm, Nat.mul_comm b, ← this, Nat.add_comm]
  rw [h1, wrap64 _ (by omega) (by omega)]
end Go.Proofs.Ytokicdkdllndpaa.Ev

/- A number's text, and what follows it, read again: plain. -/
namespace Go.Proofs.Ytokicdkdllndpaa.Ev
set_option linter.all false
open Go

end Go.Proofs.Ytokicdkdllndpaa.Ev

/- The seat's program on the small machine: which slots hold boxes of their own, which functions leave memory as it is. -/
namespace Go.Proofs.Ytokicdkdllndpaa.Ev
set_option linter.all false
open Go
def hvT : List (Nat × List Nat) := [(3, [1, 5]), (4, [1, 5]), (5, [3, 5, 9]), (6, [3, 4, 7, 9]), (7, [2, 3, 6, 8, 9, 14]), (8, [2, 6, 8, 10, 15]), (9, [2, 6, 8, 10, 15]), (10, [3, 5, 7, 9, 12, 14, 16, 17, 18, 20]), (11, [3, 5, 9]), (12, [3, 5, 8, 10, 12, 13, 14, 15]), (13, [2]), (14, [1]), (15, [1, 2, 3]), (16, [1, 4]), (17, [2, 3]), (18, [1, 5]), (19, [1, 5]), (20, [2, 6, 60]), (21, [2, 5, 7, 37]), (22, [2]), (23, [2]), (25, [2]), (27, [2, 3, 4, 6]), (28, [1, 2, 3]), (29, [2, 4, 6, 74]), (31, [2, 4, 8]), (33, [2, 4, 8, 9]), (36, [2, 4, 6, 8]), (37, [2, 4, 6, 8, 9]), (38, [2, 6, 9, 12, 41]), (40, [2, 3, 5]), (41, [2, 4, 20, 40, 55, 72, 84]), (42, [2, 8, 74]), (43, [2, 3]), (44, [2]), (45, [2]), (46, [2]), (47, [1]), (48, [1]), (51, [2, 3, 5]), (52, [2, 3]), (53, [2, 3]), (54, [2, 3, 5]), (55, [2, 3]), (56, [2, 3]), (59, [1]), (61, [1]), (64, [15, 22]), (65, [15, 22]), (66, [39]), (72, [2, 3, 27, 43]), (75, [2, 3, 4, 7]), (76, [1, 2]), (77, [1, 2, 3]), (78, [1, 2]), (80, [2]), (82, [2, 3]), (84, [2, 3]), (85, [18]), (87, [2, 3]), (88, [1]), (93, [2, 3, 24, 51]), (94, [1]), (95, [17, 23]), (102, [2, 3]), (106, [34]), (108, [2]), (109, [2, 3, 4, 58, 66, 72]), (112, [29, 35])]
def hv (f t : Nat) : Bool := match hvT.find? (·.1 == f) with | some p => p.2.contains t | none => false
def trT : List Nat := [13, 14, 16, 17, 18, 19, 23, 24, 28, 30, 34, 39, 43, 45, 47, 48, 49, 52, 53, 55, 56, 57, 58, 59, 61, 62, 63, 64, 65, 70, 77, 79, 80, 82, 84, 88, 90, 92, 94, 95, 96, 98, 99, 100, 101, 102, 103, 104, 108, 112, 113, 114, 115, 116, 117, 118, 119]
noncomputable def EE : Env := { fns := fnsOf Go.Proofs.Try.prog hv, prim := fun _ => none, pw := fun f => [113].contains f, tr := fun f => trT.contains f }
end Go.Proofs.Ytokicdkdllndpaa.Ev

/- The types of the laws' parameters: texts. -/
namespace Go.Proofs.Ytokicdkdllndpaa.Ev
set_option linter.all false
open Go
set_option maxRecDepth 100000
theorem aStr : ArgB Try.prog 9 (fun _ (b : ByteArray) v => v = .string b) (fun b => b.size ≤ maxLen) := ArgB.string Try.underlying9 (by kernel_rfl)
end Go.Proofs.Ytokicdkdllndpaa.Ev

/- Code of the program's functions, as the small machine has it: written by mkcode.py. -/
namespace Go.Proofs.Ytokicdkdllndpaa.Ev
set_option linter.all false
open Go
def c5 : CF := ⟨66, (.seq (.reg false [⟨(some 2), .none, (.mov (.c (.bool false))), 0, []⟩]) (.seq (.seq (.reg false [⟨(some 11), .none, (.mov (.t 0)), 0, []⟩, ⟨(some 12), .none, (.lenT (.t 11)), 1, []⟩, ⟨(some 13), .none, (.bin .gtr (.t 12) (.c (.int .i64 1048576))), 2, []⟩]) (.cond (.t 13) (.seq (.reg false [⟨(some 2), .none, (.mov (.c (.bool true))), 0, []⟩]) .ret) .skip)) (.seq (.reg false [⟨(some 15), .none, (.mov (.t 0)), 0, []⟩, ⟨(some 16), .none, (.call 20 [(.t 15)]), 1, []⟩, ⟨(some 14), .none, (.mov (.t 16)), 2, []⟩, ⟨(some 17), .none, (.ext (.t 14) 0), 3, []⟩, ⟨(some 18), .none, (.ext (.t 14) 1), 4, []⟩, ⟨(some 3), .none, (.newV [(.int .i64 0), (.slice .none 0 0)]), 5, []⟩, ⟨.none, .none, (.store 2 (.t 3) (.t 17)), 6, []⟩, ⟨(some 4), .none, (.mov (.t 18)), 7, []⟩]) (.seq (.reg false [⟨(some 20), .none, (.mov (.t 0)), 0, []⟩, ⟨(some 21), .none, (.call 21 [(.t 20)]), 1, []⟩, ⟨(some 19), .none, (.mov (.t 21)), 2, []⟩, ⟨(some 22), .none, (.ext (.t 19) 0), 3, []⟩, ⟨(some 23), .none, (.ext (.t 19) 1), 4, []⟩, ⟨(some 5), .none, (.newV [(.int .i64 0), (.slice .none 0 0)]), 5, []⟩, ⟨.none, .none, (.store 2 (.t 5) (.t 22)), 6, []⟩, ⟨(some 6), .none, (.mov (.t 23)), 7, []⟩]) (.seq (.seq (.reg false [⟨(some 24), .none, (.load 2 true (.t 5)), 0, []⟩, ⟨(some 25), .none, (.load 2 true (.t 3)), 1, []⟩, ⟨(some 26), .none, (.call 17 [(.t 24), (.t 25)]), 2, []⟩, ⟨(some 27), .none, (.un .not (.t 26)), 3, []⟩, ⟨(some 28), .none, (.mov (.t 27)), 4, []⟩, ⟨(some 29), (.some (28, false)), (.mov (.t 6)), 5, []⟩, ⟨(some 30), (.some (28, false)), (.mov (.t 4)), 6, []⟩, ⟨(some 31), (.some (28, false)), (.beq true (.t 29) (.t 30)), 7, []⟩, ⟨(some 32), .none, (.pick (.t 28) (.c (.bool true)) (.t 31)), 8, []⟩]) (.cond (.t 32) (.seq (.reg false [⟨(some 2), .none, (.mov (.c (.bool false))), 0, []⟩]) .ret) .skip)) (.seq (.reg false [⟨(some 7), .none, (.mov (.c (.int .i64 1))), 0, []⟩]) (.seq (.reg false [⟨(some 33), .none, (.load 2 true (.t 5)), 0, []⟩, ⟨(some 34), .none, (.mov (.t 7)), 1, []⟩, ⟨(some 35), .none, (.call 22 [(.t 33), (.t 34)]), 2, []⟩, ⟨(some 7), .none, (.mov (.t 35)), 3, []⟩]) (.seq (.reg false [⟨(some 8), .none, (.mov (.c (.int .i64 1))), 0, []⟩]) (.seq (.reg false [⟨(some 36), .none, (.load 2 true (.t 5)), 0, []⟩, ⟨(some 37), .none, (.mov (.t 8)), 1, []⟩, ⟨(some 38), .none, (.call 23 [(.t 36), (.t 37)]), 2, []⟩, ⟨(some 8), .none, (.mov (.t 38)), 3, []⟩]) (.seq (.seq (.reg false [⟨(some 39), .none, (.mov (.t 8)), 0, []⟩, ⟨(some 40), .none, (.bin .lss (.t 39) (.c (.int .i64 0))), 1, []⟩]) (.cond (.t 40) (.seq (.reg false [⟨(some 2), .none, (.mov (.c (.bool false))), 0, []⟩]) .ret) .skip)) (.seq (.seq (.reg false [⟨(some 41), .none, (.mov (.t 8)), 0, []⟩, ⟨(some 42), .none, (.mov (.t 7)), 1, []⟩, ⟨(some 43), .none, (.bin .neq (.t 41) (.t 42)), 2, []⟩]) (.cond (.t 43) (.seq (.reg false [⟨(some 2), .none, (.mov (.c (.bool false))), 0, []⟩]) .ret) .skip)) (.seq (.reg false [⟨(some 45), .none, (.mov (.t 0)), 0, []⟩, ⟨(some 46), .none, (.call 21 [(.t 45)]), 1, []⟩, ⟨(some 44), .none, (.mov (.t 46)), 2, []⟩, ⟨(some 47), .none, (.ext (.t 44) 0), 3, []⟩, ⟨(some 48), .none, (.ext (.t 44) 1), 4, []⟩, ⟨(some 9), .none, (.newV [(.int .i64 0), (.slice .none 0 0)]), 5, []⟩, ⟨.none, .none, (.store 2 (.t 9) (.t 47)), 6, []⟩, ⟨(some 10), .none, (.mov (.t 48)), 7, []⟩]) (.seq (.seq (.reg false [⟨(some 49), .none, (.load 2 true (.t 9)), 0, []⟩, ⟨(some 50), .none, (.load 2 true (.t 3)), 1, []⟩, ⟨(some 51), .none, (.call 17 [(.t 49), (.t 50)]), 2, []⟩, ⟨(some 52), .none, (.un .not (.t 51)), 3, []⟩, ⟨(some 53), .none, (.mov (.t 52)), 4, []⟩, ⟨(some 54), (.some (53, false)), (.mov (.t 10)), 5, []⟩, ⟨(some 55), (.some (53, false)), (.mov (.t 4)), 6, []⟩, ⟨(some 56), (.some (53, false)), (.beq true (.t 54) (.t 55)), 7, []⟩, ⟨(some 57), .none, (.pick (.t 53) (.c (.bool true)) (.t 56)), 8, []⟩]) (.cond (.t 57) (.seq (.reg false [⟨(some 2), .none, (.mov (.c (.bool false))), 0, []⟩]) .ret) .skip)) (.seq (.reg false [⟨(some 8), .none, (.mov (.c (.int .i64 1))), 0, []⟩]) (.seq (.reg false [⟨(some 58), .none, (.load 2 true (.t 5)), 0, []⟩, ⟨(some 59), .none, (.mov (.t 8)), 1, []⟩, ⟨(some 60), .none, (.call 23 [(.t 58), (.t 59)]), 2, []⟩, ⟨(some 8), .none, (.mov (.t 60)), 3, []⟩]) (.seq (.seq (.reg false [⟨(some 61), .none, (.mov (.t 8)), 0, []⟩, ⟨(some 62), .none, (.bin .lss (.t 61) (.c (.int .i64 0))), 1, []⟩]) (.cond (.t 62) (.seq (.reg false [⟨(some 2), .none, (.mov (.c (.bool false))), 0, []⟩]) .ret) .skip)) (.seq (.seq (.reg false [⟨(some 63), .none, (.mov (.t 8)), 0, []⟩, ⟨(some 64), .none, (.mov (.t 7)), 1, []⟩, ⟨(some 65), .none, (.bin .neq (.t 63) (.t 64)), 2, []⟩]) (.cond (.t 65) (.seq (.reg false [⟨(some 2), .none, (.mov (.c (.bool false))), 0, []⟩]) .ret) .skip)) (.seq (.reg false [⟨(some 2), .none, (.mov (.c (.bool true))), 0, []⟩]) .ret)))))))))))))))))), [(.t 2)]⟩
theorem k5 : EE.fns 5 = some c5 := by kernel_rfl
def c14 : CF := ⟨48, (.seq (.reg false [⟨(some 1), .none, (.boxV (.t 0)), 0, []⟩, ⟨(some 2), .none, (.mov (.c (.bool false))), 1, []⟩]) (.seq (.seq (.reg false [⟨(some 4), .none, (.fadr 1 (.t 1)), 0, []⟩, ⟨(some 5), .none, (.load 1 false (.t 4)), 1, []⟩, ⟨(some 6), .none, (.lenS (.t 5)), 2, []⟩, ⟨(some 7), .none, (.bin .gtr (.t 6) (.c (.int .i64 12))), 3, []⟩, ⟨(some 8), .none, (.mov (.t 7)), 4, []⟩, ⟨(some 9), (.some (8, false)), (.fadr 0 (.t 1)), 5, []⟩, ⟨(some 10), (.some (8, false)), (.load 1 false (.t 9)), 6, []⟩, ⟨(some 11), (.some (8, false)), (.call 58 [(.t 10), (.c (.int .i64 0)), (.c (.int .i64 100000))]), 7, []⟩, ⟨(some 12), (.some (8, false)), (.un .not (.t 11)), 8, []⟩, ⟨(some 13), .none, (.pick (.t 8) (.c (.bool true)) (.t 12)), 9, []⟩]) (.cond (.t 13) (.seq (.reg false [⟨(some 2), .none, (.mov (.c (.bool false))), 0, []⟩]) .ret) .skip)) (.seq (.seq (.reg false [⟨(some 3), .none, (.mov (.c (.int .i64 0))), 0, []⟩]) (.block 0 (.loop (.seq (.seq (.reg false [⟨(some 14), .none, (.mov (.t 3)), 0, []⟩, ⟨(some 15), .none, (.fadr 1 (.t 1)), 1, []⟩, ⟨(some 16), .none, (.load 1 false (.t 15)), 2, []⟩, ⟨(some 17), .none, (.lenS (.t 16)), 3, []⟩, ⟨(some 18), .none, (.bin .lss (.t 14) (.t 17)), 4, []⟩]) (.cond (.t 18) .skip (.exit 0))) (.seq (.block 1 (.seq (.reg true [⟨(some 21), .none, (.fadr 1 (.t 1)), 0, []⟩, ⟨(some 22), .none, (.load 1 false (.t 21)), 1, [0]⟩, ⟨(some 23), .none, (.mov (.t 3)), 2, []⟩, ⟨(some 24), .none, (.iadr 4 (.t 22) (.t 23)), 3, [1, 0, 2]⟩, ⟨(some 25), .none, (.load 4 true (.t 24)), 4, [3, 1, 0, 2]⟩, ⟨(some 26), .none, (.call 59 [(.t 25)]), 5, [4, 3, 1, 0, 2]⟩, ⟨(some 27), .none, (.un .not (.t 26)), 6, [5, 4, 3, 1, 0, 2]⟩, ⟨(some 28), .none, (.mov (.t 27)), 7, [6, 5, 4, 3, 1, 0, 2]⟩, ⟨(some 29), (.some (28, false)), (.mov (.t 3)), 8, [7, 6, 5, 4, 3, 1, 0, 2]⟩, ⟨(some 30), (.some (28, false)), (.bin .gtr (.t 29) (.c (.int .i64 0))), 9, [8, 7, 6, 5, 4, 3, 1, 0, 2]⟩, ⟨(some 31), (.some (28, false)), (.mov (.t 30)), 10, [9, 8, 7, 6, 5, 4, 3, 1, 0, 2]⟩, ⟨(some 32), (.some (31, true)), (.fadr 1 (.t 1)), 11, [10, 9, 8, 7, 6, 5, 4, 3, 1, 0, 2]⟩, ⟨(some 33), (.some (31, true)), (.load 1 false (.t 32)), 12, [11, 10, 9, 8, 7, 6, 5, 4, 3, 1, 0, 2]⟩, ⟨(some 34), (.some (31, true)), (.mov (.t 3)), 13, [10, 9, 8, 7, 6, 5, 4, 3, 1, 0, 2]⟩, ⟨(some 35), (.some (31, true)), (.bin .sub (.t 34) (.c (.int .i64 1))), 14, [13, 10, 9, 8, 7, 6, 5, 4, 3, 1, 0, 2]⟩, ⟨(some 36), (.some (31, true)), (.iadr 4 (.t 33) (.t 35)), 15, [12, 11, 10, 9, 8, 7, 6, 5, 4, 3, 1, 0, 2, 14, 13]⟩, ⟨(some 37), (.some (31, true)), (.fadr 0 (.t 36)), 16, [15, 12, 11, 10, 9, 8, 7, 6, 5, 4, 3, 1, 0, 2, 14, 13]⟩, ⟨(some 38), (.some (31, true)), (.load 1 false (.t 37)), 17, [16, 15, 12, 11, 10, 9, 8, 7, 6, 5, 4, 3, 1, 0, 2, 14, 13]⟩, ⟨(some 39), (.some (31, true)), (.fadr 1 (.t 1)), 18, [10, 9, 8, 7, 6, 5, 4, 3, 1, 0, 2]⟩, ⟨(some 40), (.some (31, true)), (.load 1 false (.t 39)), 19, [18, 10, 9, 8, 7, 6, 5, 4, 3, 1, 0, 2]⟩, ⟨(some 41), (.some (31, true)), (.mov (.t 3)), 20, [10, 9, 8, 7, 6, 5, 4, 3, 1, 0, 2]⟩, ⟨(some 42), (.some (31, true)), (.iadr 4 (.t 40) (.t 41)), 21, [19, 18, 10, 9, 8, 7, 6, 5, 4, 3, 1, 0, 2, 20]⟩, ⟨(some 43), (.some (31, true)), (.fadr 0 (.t 42)), 22, [21, 19, 18, 10, 9, 8, 7, 6, 5, 4, 3, 1, 0, 2, 20]⟩, ⟨(some 44), (.some (31, true)), (.load 1 false (.t 43)), 23, [22, 21, 19, 18, 10, 9, 8, 7, 6, 5, 4, 3, 1, 0, 2, 20]⟩, ⟨(some 45), (.some (31, true)), (.bin .geq (.t 38) (.t 44)), 24, [17, 16, 15, 12, 11, 10, 9, 8, 7, 6, 5, 4, 3, 1, 0, 2, 14, 13, 23, 22, 21, 19, 18, 20]⟩, ⟨(some 46), (.some (28, false)), (.pick (.t 31) (.t 45) (.c (.bool false))), 25, [10, 9, 8, 7, 6, 5, 4, 3, 1, 0, 2, 24, 17, 16, 15, 12, 11, 14, 13, 23, 22, 21, 19, 18, 20]⟩, ⟨(some 47), .none, (.pick (.t 28) (.c (.bool true)) (.t 46)), 26, [7, 6, 5, 4, 3, 1, 0, 2, 25, 10, 9, 8, 24, 17, 16, 15, 12, 11, 14, 13, 23, 22, 21, 19, 18, 20]⟩]) (.cond (.t 47) (.seq (.reg false [⟨(some 2), .none, (.mov (.c (.bool false))), 0, []⟩]) .ret) .skip))) (.reg false [⟨(some 19), .none, (.mov (.t 3)), 0, []⟩, ⟨(some 20), .none, (.bin .add (.t 19) (.c (.int .i64 1))), 1, []⟩, ⟨(some 3), .none, (.mov (.t 20)), 2, []⟩])))))) (.seq (.reg false [⟨(some 2), .none, (.mov (.c (.bool true))), 0, []⟩]) .ret)))), [(.t 2)]⟩
theorem k14 : EE.fns 14 = some c14 := by kernel_rfl
def c16 : CF := ⟨42, (.seq (.reg false [⟨(some 1), .none, (.boxV (.t 0)), 0, []⟩, ⟨(some 2), .none, (.mov (.c (.bool false))), 1, []⟩]) (.seq (.seq (.reg false [⟨(some 5), .none, (.fadr 1 (.t 1)), 0, []⟩, ⟨(some 6), .none, (.load 1 false (.t 5)), 1, []⟩, ⟨(some 7), .none, (.lenS (.t 6)), 2, []⟩, ⟨(some 8), .none, (.mov (.c (.int .i64 0))), 3, []⟩]) (.block 0 (.loop (.seq (.reg false [⟨(some 9), .none, (.bin .lss (.t 8) (.t 7)), 0, []⟩]) (.seq (.cond (.t 9) .skip (.exit 0)) (.seq (.block 1 (.seq (.reg false [⟨(some 10), .none, (.mov (.t 8)), 0, []⟩, ⟨(some 11), .none, (.iadr 4 (.t 6) (.t 8)), 1, []⟩, ⟨(some 12), .none, (.load 4 true (.t 11)), 2, []⟩, ⟨(some 4), .none, (.newV [(.int .i64 0), (.int .i64 0), (.int .i64 0), (.bool false)]), 3, []⟩, ⟨(some 3), .none, (.mov (.t 10)), 4, []⟩, ⟨.none, .none, (.store 4 (.t 4) (.t 12)), 5, []⟩]) (.seq (.reg true [⟨(some 13), .none, (.load 4 true (.t 4)), 0, []⟩, ⟨(some 14), .none, (.call 61 [(.t 13)]), 1, [0]⟩, ⟨(some 15), .none, (.un .not (.t 14)), 2, [1, 0]⟩, ⟨(some 16), .none, (.mov (.t 15)), 3, [2, 1, 0]⟩, ⟨(some 17), (.some (16, false)), (.mov (.t 3)), 4, [3, 2, 1, 0]⟩, ⟨(some 18), (.some (16, false)), (.bin .gtr (.t 17) (.c (.int .i64 0))), 5, [4, 3, 2, 1, 0]⟩, ⟨(some 19), (.some (16, false)), (.mov (.t 18)), 6, [5, 4, 3, 2, 1, 0]⟩, ⟨(some 20), (.some (19, true)), (.fadr 1 (.t 1)), 7, [6, 5, 4, 3, 2, 1, 0]⟩, ⟨(some 21), (.some (19, true)), (.load 1 false (.t 20)), 8, [7, 6, 5, 4, 3, 2, 1, 0]⟩, ⟨(some 22), (.some (19, true)), (.mov (.t 3)), 9, [6, 5, 4, 3, 2, 1, 0]⟩, ⟨(some 23), (.some (19, true)), (.bin .sub (.t 22) (.c (.int .i64 1))), 10, [9, 6, 5, 4, 3, 2, 1, 0]⟩, ⟨(some 24), (.some (19, true)), (.iadr 4 (.t 21) (.t 23)), 11, [8, 7, 6, 5, 4, 3, 2, 1, 0, 10, 9]⟩, ⟨(some 25), (.some (19, true)), (.fadr 0 (.t 24)), 12, [11, 8, 7, 6, 5, 4, 3, 2, 1, 0, 10, 9]⟩, ⟨(some 26), (.some (19, true)), (.load 1 false (.t 25)), 13, [12, 11, 8, 7, 6, 5, 4, 3, 2, 1, 0, 10, 9]⟩, ⟨(some 27), (.some (19, true)), (.fadr 0 (.t 4)), 14, [6, 5, 4, 3, 2, 1, 0]⟩, ⟨(some 28), (.some (19, true)), (.load 1 false (.t 27)), 15, [14, 6, 5, 4, 3, 2, 1, 0]⟩, ⟨(some 29), (.some (19, true)), (.bin .geq (.t 26) (.t 28)), 16, [13, 12, 11, 8, 7, 6, 5, 4, 3, 2, 1, 0, 10, 9, 15, 14]⟩, ⟨(some 30), (.some (16, false)), (.pick (.t 19) (.t 29) (.c (.bool false))), 17, [6, 5, 4, 3, 2, 1, 0, 16, 13, 12, 11, 8, 7, 10, 9, 15, 14]⟩, ⟨(some 31), .none, (.pick (.t 16) (.c (.bool true)) (.t 30)), 18, [3, 2, 1, 0, 17, 6, 5, 4, 16, 13, 12, 11, 8, 7, 10, 9, 15, 14]⟩]) (.cond (.t 31) (.seq (.reg false [⟨(some 2), .none, (.mov (.c (.bool false))), 0, []⟩]) .ret) .skip)))) (.reg false [⟨(some 32), .none, (.bin .add (.t 8) (.c (.int .i64 1))), 0, []⟩, ⟨(some 8), .none, (.mov (.t 32)), 1, []⟩]))))))) (.seq (.reg false [⟨(some 33), .none, (.fadr 1 (.t 1)), 0, []⟩, ⟨(some 34), .none, (.load 1 false (.t 33)), 1, []⟩, ⟨(some 35), .none, (.lenS (.t 34)), 2, []⟩, ⟨(some 36), .none, (.bin .leq (.t 35) (.c (.int .i64 12))), 3, []⟩, ⟨(some 37), .none, (.mov (.t 36)), 4, []⟩, ⟨(some 38), (.some (37, true)), (.fadr 0 (.t 1)), 5, []⟩, ⟨(some 39), (.some (37, true)), (.load 1 false (.t 38)), 6, []⟩, ⟨(some 40), (.some (37, true)), (.call 62 [(.t 39)]), 7, []⟩, ⟨(some 41), .none, (.pick (.t 37) (.t 40) (.c (.bool false))), 8, []⟩, ⟨(some 2), .none, (.mov (.t 41)), 9, []⟩]) .ret))), [(.t 2)]⟩
theorem k16 : EE.fns 16 = some c16 := by kernel_rfl
def c17 : CF := ⟨16, (.seq (.reg false [⟨(some 2), .none, (.boxV (.t 0)), 0, []⟩, ⟨(some 3), .none, (.boxV (.t 1)), 1, []⟩, ⟨(some 4), .none, (.mov (.c (.bool false))), 2, []⟩]) (.seq (.seq (.reg false [⟨(some 5), .none, (.fadr 0 (.t 2)), 0, []⟩, ⟨(some 6), .none, (.load 1 false (.t 5)), 1, []⟩, ⟨(some 7), .none, (.fadr 0 (.t 3)), 2, []⟩, ⟨(some 8), .none, (.load 1 false (.t 7)), 3, []⟩, ⟨(some 9), .none, (.bin .neq (.t 6) (.t 8)), 4, []⟩]) (.cond (.t 9) (.seq (.reg false [⟨(some 4), .none, (.mov (.c (.bool false))), 0, []⟩]) .ret) .skip)) (.seq (.seq (.reg false [⟨(some 10), .none, (.fadr 1 (.t 2)), 0, []⟩, ⟨(some 11), .none, (.load 1 false (.t 10)), 1, []⟩, ⟨(some 12), .none, (.fadr 1 (.t 3)), 2, []⟩, ⟨(some 13), .none, (.load 1 false (.t 12)), 3, []⟩, ⟨(some 14), .none, (.call 63 [(.t 11), (.t 13)]), 4, []⟩, ⟨(some 15), .none, (.un .not (.t 14)), 5, []⟩]) (.cond (.t 15) (.seq (.reg false [⟨(some 4), .none, (.mov (.c (.bool false))), 0, []⟩]) .ret) .skip)) (.seq (.reg false [⟨(some 4), .none, (.mov (.c (.bool true))), 0, []⟩]) .ret)))), [(.t 4)]⟩
theorem k17 : EE.fns 17 = some c17 := by kernel_rfl
def c18 : CF := ⟨48, (.seq (.reg false [⟨(some 1), .none, (.boxV (.t 0)), 0, []⟩, ⟨(some 2), .none, (.mov (.c (.string ⟨#[]⟩))), 1, []⟩]) (.seq (.seq (.reg false [⟨(some 7), .none, (.load 2 true (.t 1)), 0, []⟩, ⟨(some 8), .none, (.call 14 [(.t 7)]), 1, []⟩, ⟨(some 9), .none, (.un .not (.t 8)), 2, []⟩]) (.cond (.t 9) (.seq (.reg false [⟨(some 2), .none, (.mov (.c (.string ⟨#[]⟩))), 0, []⟩]) .ret) .skip)) (.seq (.reg true [⟨(some 10), .none, (.fadr 0 (.t 1)), 0, []⟩, ⟨(some 11), .none, (.load 1 false (.t 10)), 1, [0]⟩, ⟨(some 12), .none, (.call 64 [(.t 11)]), 2, [1, 0]⟩, ⟨(some 13), .none, (.fadr 1 (.t 1)), 3, []⟩, ⟨(some 14), .none, (.load 1 false (.t 13)), 4, [3]⟩, ⟨(some 15), .none, (.lenS (.t 14)), 5, [4, 3]⟩, ⟨(some 16), .none, (.call 64 [(.t 15)]), 6, [5, 4, 3, 2, 1, 0]⟩, ⟨(some 17), .none, (.bin .add (.t 12) (.t 16)), 7, [2, 1, 0, 6, 5, 4, 3]⟩, ⟨(some 3), .none, (.mov (.t 17)), 8, [7, 2, 1, 0, 6, 5, 4, 3]⟩]) (.seq (.seq (.reg false [⟨(some 4), .none, (.mov (.c (.int .i64 0))), 0, []⟩]) (.block 0 (.loop (.seq (.seq (.reg false [⟨(some 18), .none, (.mov (.t 4)), 0, []⟩, ⟨(some 19), .none, (.fadr 1 (.t 1)), 1, []⟩, ⟨(some 20), .none, (.load 1 false (.t 19)), 2, []⟩, ⟨(some 21), .none, (.lenS (.t 20)), 3, []⟩, ⟨(some 22), .none, (.bin .lss (.t 18) (.t 21)), 4, []⟩]) (.cond (.t 22) .skip (.exit 0))) (.seq (.block 1 (.seq (.reg false [⟨(some 25), .none, (.fadr 1 (.t 1)), 0, []⟩, ⟨(some 26), .none, (.load 1 false (.t 25)), 1, []⟩, ⟨(some 27), .none, (.mov (.t 4)), 2, []⟩, ⟨(some 28), .none, (.iadr 4 (.t 26) (.t 27)), 3, []⟩, ⟨(some 29), .none, (.load 4 true (.t 28)), 4, []⟩, ⟨(some 5), .none, (.newV [(.int .i64 0), (.int .i64 0), (.int .i64 0), (.bool false)]), 5, []⟩, ⟨.none, .none, (.store 4 (.t 5) (.t 29)), 6, []⟩]) (.seq (.reg false [⟨(some 6), .none, (.mov (.c (.string ⟨#[0]⟩))), 0, []⟩]) (.seq (.seq (.reg false [⟨(some 30), .none, (.fadr 3 (.t 5)), 0, []⟩, ⟨(some 31), .none, (.load 1 false (.t 30)), 1, []⟩]) (.cond (.t 31) (.reg false [⟨(some 6), .none, (.mov (.c (.string ⟨#[1]⟩))), 0, []⟩]) .skip)) (.reg true [⟨(some 32), .none, (.mov (.t 3)), 0, []⟩, ⟨(some 33), .none, (.fadr 0 (.t 5)), 1, []⟩, ⟨(some 34), .none, (.load 1 false (.t 33)), 2, [1]⟩, ⟨(some 35), .none, (.call 64 [(.t 34)]), 3, [2, 1]⟩, ⟨(some 36), .none, (.bin .add (.t 32) (.t 35)), 4, [0, 3, 2, 1]⟩, ⟨(some 37), .none, (.fadr 1 (.t 5)), 5, []⟩, ⟨(some 38), .none, (.load 1 false (.t 37)), 6, [5]⟩, ⟨(some 39), .none, (.call 64 [(.t 38)]), 7, [6, 5, 3, 2, 1]⟩, ⟨(some 40), .none, (.bin .add (.t 36) (.t 39)), 8, [4, 0, 3, 2, 1, 7, 6, 5]⟩, ⟨(some 41), .none, (.fadr 2 (.t 5)), 9, []⟩, ⟨(some 42), .none, (.load 1 false (.t 41)), 10, [9]⟩, ⟨(some 43), .none, (.call 64 [(.t 42)]), 11, [10, 9, 7, 6, 5, 3, 2, 1]⟩, ⟨(some 44), .none, (.bin .add (.t 40) (.t 43)), 12, [8, 4, 0, 3, 2, 1, 7, 6, 5, 11, 10, 9]⟩, ⟨(some 45), .none, (.mov (.t 6)), 13, []⟩, ⟨(some 46), .none, (.bin .add (.t 44) (.t 45)), 14, [12, 8, 4, 0, 3, 2, 1, 7, 6, 5, 11, 10, 9, 13]⟩, ⟨(some 3), .none, (.mov (.t 46)), 15, [14, 12, 8, 4, 0, 3, 2, 1, 7, 6, 5, 11, 10, 9, 13]⟩]))))) (.reg false [⟨(some 23), .none, (.mov (.t 4)), 0, []⟩, ⟨(some 24), .none, (.bin .add (.t 23) (.c (.int .i64 1))), 1, []⟩, ⟨(some 4), .none, (.mov (.t 24)), 2, []⟩])))))) (.seq (.reg false [⟨(some 47), .none, (.mov (.t 3)), 0, []⟩, ⟨(some 2), .none, (.mov (.t 47)), 1, []⟩]) .ret))))), [(.t 2)]⟩
theorem k18 : EE.fns 18 = some c18 := by kernel_rfl
def c19 : CF := ⟨44, (.seq (.reg false [⟨(some 1), .none, (.boxV (.t 0)), 0, []⟩, ⟨(some 2), .none, (.mov (.c (.string ⟨#[]⟩))), 1, []⟩]) (.seq (.seq (.reg false [⟨(some 7), .none, (.load 2 true (.t 1)), 0, []⟩, ⟨(some 8), .none, (.call 16 [(.t 7)]), 1, []⟩, ⟨(some 9), .none, (.un .not (.t 8)), 2, []⟩]) (.cond (.t 9) (.seq (.reg false [⟨(some 2), .none, (.mov (.c (.string ⟨#[]⟩))), 0, []⟩]) .ret) .skip)) (.seq (.reg true [⟨(some 10), .none, (.fadr 0 (.t 1)), 0, []⟩, ⟨(some 11), .none, (.load 1 false (.t 10)), 1, [0]⟩, ⟨(some 12), .none, (.call 65 [(.t 11)]), 2, [1, 0]⟩, ⟨(some 13), .none, (.fadr 1 (.t 1)), 3, []⟩, ⟨(some 14), .none, (.load 1 false (.t 13)), 4, [3]⟩, ⟨(some 15), .none, (.lenS (.t 14)), 5, [4, 3]⟩, ⟨(some 16), .none, (.call 65 [(.t 15)]), 6, [5, 4, 3, 2, 1, 0]⟩, ⟨(some 17), .none, (.bin .add (.t 12) (.t 16)), 7, [2, 1, 0, 6, 5, 4, 3]⟩, ⟨(some 3), .none, (.mov (.t 17)), 8, [7, 2, 1, 0, 6, 5, 4, 3]⟩]) (.seq (.seq (.reg false [⟨(some 18), .none, (.fadr 1 (.t 1)), 0, []⟩, ⟨(some 19), .none, (.load 1 false (.t 18)), 1, []⟩, ⟨(some 20), .none, (.lenS (.t 19)), 2, []⟩, ⟨(some 21), .none, (.mov (.c (.int .i64 0))), 3, []⟩]) (.block 0 (.loop (.seq (.reg false [⟨(some 22), .none, (.bin .lss (.t 21) (.t 20)), 0, []⟩]) (.seq (.cond (.t 22) .skip (.exit 0)) (.seq (.block 1 (.seq (.reg false [⟨(some 23), .none, (.iadr 4 (.t 19) (.t 21)), 0, []⟩, ⟨(some 24), .none, (.load 4 true (.t 23)), 1, []⟩, ⟨(some 5), .none, (.newV [(.int .i64 0), (.int .i64 0), (.int .i64 0), (.bool false)]), 2, []⟩, ⟨.none, .none, (.store 4 (.t 5) (.t 24)), 3, []⟩]) (.seq (.reg false [⟨(some 6), .none, (.mov (.c (.string ⟨#[0]⟩))), 0, []⟩]) (.seq (.seq (.reg false [⟨(some 25), .none, (.fadr 3 (.t 5)), 0, []⟩, ⟨(some 26), .none, (.load 1 false (.t 25)), 1, []⟩]) (.cond (.t 26) (.reg false [⟨(some 6), .none, (.mov (.c (.string ⟨#[1]⟩))), 0, []⟩]) .skip)) (.reg true [⟨(some 27), .none, (.mov (.t 3)), 0, []⟩, ⟨(some 28), .none, (.fadr 0 (.t 5)), 1, []⟩, ⟨(some 29), .none, (.load 1 false (.t 28)), 2, [1]⟩, ⟨(some 30), .none, (.call 65 [(.t 29)]), 3, [2, 1]⟩, ⟨(some 31), .none, (.bin .add (.t 27) (.t 30)), 4, [0, 3, 2, 1]⟩, ⟨(some 32), .none, (.fadr 1 (.t 5)), 5, []⟩, ⟨(some 33), .none, (.load 1 false (.t 32)), 6, [5]⟩, ⟨(some 34), .none, (.call 65 [(.t 33)]), 7, [6, 5, 3, 2, 1]⟩, ⟨(some 35), .none, (.bin .add (.t 31) (.t 34)), 8, [4, 0, 3, 2, 1, 7, 6, 5]⟩, ⟨(some 36), .none, (.fadr 2 (.t 5)), 9, []⟩, ⟨(some 37), .none, (.load 1 false (.t 36)), 10, [9]⟩, ⟨(some 38), .none, (.call 65 [(.t 37)]), 11, [10, 9, 7, 6, 5, 3, 2, 1]⟩, ⟨(some 39), .none, (.bin .add (.t 35) (.t 38)), 12, [8, 4, 0, 3, 2, 1, 7, 6, 5, 11, 10, 9]⟩, ⟨(some 40), .none, (.mov (.t 6)), 13, []⟩, ⟨(some 41), .none, (.bin .add (.t 39) (.t 40)), 14, [12, 8, 4, 0, 3, 2, 1, 7, 6, 5, 11, 10, 9, 13]⟩, ⟨(some 3), .none, (.mov (.t 41)), 15, [14, 12, 8, 4, 0, 3, 2, 1, 7, 6, 5, 11, 10, 9, 13]⟩]))))) (.reg false [⟨(some 42), .none, (.bin .add (.t 21) (.c (.int .i64 1))), 0, []⟩, ⟨(some 21), .none, (.mov (.t 42)), 1, []⟩]))))))) (.seq (.reg false [⟨(some 43), .none, (.mov (.t 3)), 0, []⟩, ⟨(some 2), .none, (.mov (.t 43)), 1, []⟩]) .ret))))), [(.t 2)]⟩
theorem k19 : EE.fns 19 = some c19 := by kernel_rfl
def c20 : CF := ⟨70, (.seq (.reg false [⟨(some 2), .none, (.newV [(.int .i64 0), (.slice .none 0 0)]), 0, []⟩, ⟨(some 3), .none, (.mov (.c (.bool false))), 1, []⟩]) (.seq (.reg false [⟨(some 11), .none, (.mov (.t 0)), 0, []⟩, ⟨(some 12), .none, (.call 66 [(.t 11), (.c (.int .i64 0)), (.c (.int .i64 2))]), 1, []⟩, ⟨(some 10), .none, (.mov (.t 12)), 2, []⟩, ⟨(some 13), .none, (.ext (.t 10) 0), 3, []⟩, ⟨(some 14), .none, (.ext (.t 10) 1), 4, []⟩, ⟨(some 4), .none, (.mov (.t 13)), 5, []⟩, ⟨(some 5), .none, (.mov (.t 14)), 6, []⟩]) (.seq (.seq (.reg false [⟨(some 15), .none, (.mov (.t 5)), 0, []⟩, ⟨(some 16), .none, (.bin .lss (.t 15) (.c (.int .i64 0))), 1, []⟩, ⟨(some 17), .none, (.mov (.t 16)), 2, []⟩, ⟨(some 18), (.some (17, false)), (.mov (.t 4)), 3, []⟩, ⟨(some 19), (.some (17, false)), (.iadr 1 (.t 18) (.c (.int .i64 1))), 4, []⟩, ⟨(some 20), (.some (17, false)), (.load 1 false (.t 19)), 5, []⟩, ⟨(some 21), (.some (17, false)), (.bin .gtr (.t 20) (.c (.int .i64 12))), 6, []⟩, ⟨(some 22), .none, (.pick (.t 17) (.c (.bool true)) (.t 21)), 7, []⟩]) (.cond (.t 22) (.seq (.reg false [⟨(some 23), .none, (.build [(.int .i64 0), (.slice .none 0 0)] []), 0, []⟩, ⟨.none, .none, (.store 2 (.t 2) (.t 23)), 1, []⟩, ⟨(some 3), .none, (.mov (.c (.bool false))), 2, []⟩]) .ret) .skip)) (.seq (.reg false [⟨(some 24), .none, (.mov (.t 4)), 0, []⟩, ⟨(some 25), .none, (.iadr 1 (.t 24) (.c (.int .i64 0))), 1, []⟩, ⟨(some 26), .none, (.load 1 false (.t 25)), 2, []⟩, ⟨(some 27), .none, (.build [(.int .i64 0), (.slice .none 0 0)] [(0, (1, (.t 26)))]), 3, []⟩, ⟨(some 6), .none, (.newV [(.int .i64 0), (.slice .none 0 0)]), 4, []⟩, ⟨.none, .none, (.store 2 (.t 6) (.t 27)), 5, []⟩]) (.seq (.seq (.reg false [⟨(some 7), .none, (.mov (.c (.int .i64 0))), 0, []⟩]) (.block 0 (.loop (.seq (.seq (.reg false [⟨(some 28), .none, (.mov (.t 7)), 0, []⟩, ⟨(some 29), .none, (.mov (.t 4)), 1, []⟩, ⟨(some 30), .none, (.iadr 1 (.t 29) (.c (.int .i64 1))), 2, []⟩, ⟨(some 31), .none, (.load 1 false (.t 30)), 3, []⟩, ⟨(some 32), .none, (.bin .lss (.t 28) (.t 31)), 4, []⟩]) (.cond (.t 32) .skip (.exit 0))) (.seq (.block 1 (.seq (.reg false [⟨(some 36), .none, (.mov (.t 0)), 0, []⟩, ⟨(some 37), .none, (.mov (.t 5)), 1, []⟩, ⟨(some 38), .none, (.call 66 [(.t 36), (.t 37), (.c (.int .i64 4))]), 2, []⟩, ⟨(some 35), .none, (.mov (.t 38)), 3, []⟩, ⟨(some 39), .none, (.ext (.t 35) 0), 4, []⟩, ⟨(some 40), .none, (.ext (.t 35) 1), 5, []⟩, ⟨(some 8), .none, (.mov (.t 39)), 6, []⟩, ⟨(some 9), .none, (.mov (.t 40)), 7, []⟩]) (.seq (.seq (.reg false [⟨(some 41), .none, (.mov (.t 9)), 0, []⟩, ⟨(some 42), .none, (.bin .lss (.t 41) (.c (.int .i64 0))), 1, []⟩]) (.cond (.t 42) (.seq (.reg false [⟨(some 43), .none, (.build [(.int .i64 0), (.slice .none 0 0)] []), 0, []⟩, ⟨.none, .none, (.store 2 (.t 2) (.t 43)), 1, []⟩, ⟨(some 3), .none, (.mov (.c (.bool false))), 2, []⟩]) .ret) .skip)) (.seq (.reg true [⟨(some 44), .none, (.fadr 1 (.t 6)), 0, []⟩, ⟨(some 45), .none, (.load 1 false (.t 44)), 1, [0]⟩, ⟨(some 46), .none, (.mov (.t 8)), 2, []⟩, ⟨(some 47), .none, (.iadr 1 (.t 46) (.c (.int .i64 0))), 3, [2]⟩, ⟨(some 48), .none, (.load 1 false (.t 47)), 4, [3, 2]⟩, ⟨(some 49), .none, (.mov (.t 8)), 5, []⟩, ⟨(some 50), .none, (.iadr 1 (.t 49) (.c (.int .i64 1))), 6, [5]⟩, ⟨(some 51), .none, (.load 1 false (.t 50)), 7, [6, 5]⟩, ⟨(some 52), .none, (.mov (.t 8)), 8, []⟩, ⟨(some 53), .none, (.iadr 1 (.t 52) (.c (.int .i64 2))), 9, [8]⟩, ⟨(some 54), .none, (.load 1 false (.t 53)), 10, [9, 8]⟩, ⟨(some 55), .none, (.mov (.t 8)), 11, []⟩, ⟨(some 56), .none, (.iadr 1 (.t 55) (.c (.int .i64 3))), 12, [11]⟩, ⟨(some 57), .none, (.load 1 false (.t 56)), 13, [12, 11]⟩, ⟨(some 58), .none, (.bin .eql (.t 57) (.c (.int .i64 1))), 14, [13, 12, 11]⟩, ⟨(some 59), .none, (.build [(.int .i64 0), (.int .i64 0), (.int .i64 0), (.bool false)] [(0, (1, (.t 48))), (1, (1, (.t 51))), (2, (1, (.t 54))), (3, (1, (.t 58)))]), 15, [4, 3, 2, 7, 6, 5, 10, 9, 8, 14, 13, 12, 11]⟩, ⟨(some 60), .none, (.mkV 1 4 [(.int .i64 0), (.int .i64 0), (.int .i64 0), (.bool false)] [(0, (.t 59))]), 16, [15, 4, 3, 2, 7, 6, 5, 10, 9, 8, 14, 13, 12, 11]⟩, ⟨(some 61), .none, (.app 4 32 (.t 45) (.t 60)), 17, [1, 0, 16, 15, 4, 3, 2, 7, 6, 5, 10, 9, 8, 14, 13, 12, 11]⟩, ⟨(some 62), .none, (.fadr 1 (.t 6)), 18, [0, 1, 2, 3, 4, 5, 6, 7, 8, 9, 10, 11, 12, 13, 14, 15, 16, 17]⟩, ⟨.none, .none, (.store 1 (.t 62) (.t 61)), 19, [18, 0, 1, 2, 3, 4, 5, 6, 7, 8, 9, 10, 11, 12, 13, 14, 15, 16, 17]⟩]) (.reg false [⟨(some 63), .none, (.mov (.t 9)), 0, []⟩, ⟨(some 5), .none, (.mov (.t 63)), 1, []⟩]))))) (.reg false [⟨(some 33), .none, (.mov (.t 7)), 0, []⟩, ⟨(some 34), .none, (.bin .add (.t 33) (.c (.int .i64 1))), 1, []⟩, ⟨(some 7), .none, (.mov (.t 34)), 2, []⟩])))))) (.seq (.seq (.reg false [⟨(some 64), .none, (.load 2 true (.t 6)), 0, []⟩, ⟨(some 65), .none, (.call 18 [(.t 64)]), 1, []⟩, ⟨(some 66), .none, (.mov (.t 0)), 2, []⟩, ⟨(some 67), .none, (.bin .neq (.t 65) (.t 66)), 3, []⟩]) (.cond (.t 67) (.seq (.reg false [⟨(some 68), .none, (.build [(.int .i64 0), (.slice .none 0 0)] []), 0, []⟩, ⟨.none, .none, (.store 2 (.t 2) (.t 68)), 1, []⟩, ⟨(some 3), .none, (.mov (.c (.bool false))), 2, []⟩]) .ret) .skip)) (.seq (.reg false [⟨(some 69), .none, (.load 2 true (.t 6)), 0, []⟩, ⟨.none, .none, (.store 2 (.t 2) (.t 69)), 1, []⟩, ⟨(some 3), .none, (.mov (.c (.bool true))), 2, []⟩]) .ret))))))), [(.cell 2 2 true), (.t 3)]⟩
theorem k20 : EE.fns 20 = some c20 := by kernel_rfl
def c21 : CF := ⟨57, (.seq (.reg false [⟨(some 2), .none, (.newV [(.int .i64 0), (.slice .none 0 0)]), 0, []⟩, ⟨(some 3), .none, (.mov (.c (.bool false))), 1, []⟩]) (.seq (.reg false [⟨(some 9), .none, (.mov (.t 0)), 0, []⟩, ⟨(some 10), .none, (.build [(.string ⟨#[]⟩), (.int .i64 0), (.bool false)] [(0, (1, (.t 9)))]), 1, []⟩, ⟨(some 11), .none, (.boxO (.t 10)), 2, []⟩, ⟨(some 4), .none, (.mov (.t 11)), 3, []⟩]) (.seq (.reg false [⟨(some 12), .none, (.mov (.t 4)), 0, []⟩, ⟨(some 13), .none, (.call 67 [(.t 12)]), 1, []⟩, ⟨(some 14), .none, (.build [(.int .i64 0), (.slice .none 0 0)] [(0, (1, (.t 13)))]), 2, []⟩, ⟨(some 5), .none, (.newV [(.int .i64 0), (.slice .none 0 0)]), 3, []⟩, ⟨.none, .none, (.store 2 (.t 5) (.t 14)), 4, []⟩]) (.seq (.reg false [⟨(some 15), .none, (.mov (.t 4)), 0, []⟩, ⟨(some 16), .none, (.call 68 [(.t 15), (.c (.int .i64 12))]), 1, []⟩, ⟨(some 6), .none, (.mov (.t 16)), 2, []⟩]) (.seq (.seq (.reg false [⟨(some 17), .none, (.mov (.t 6)), 0, []⟩, ⟨(some 18), .none, (.mov (.c (.int .i64 0))), 1, []⟩]) (.block 0 (.loop (.seq (.reg false [⟨(some 19), .none, (.bin .lss (.t 18) (.t 17)), 0, []⟩]) (.seq (.cond (.t 19) .skip (.exit 0)) (.seq (.block 1 (.seq (.reg false [⟨(some 20), .none, (.mov (.t 4)), 0, []⟩, ⟨(some 21), .none, (.call 67 [(.t 20)]), 1, []⟩, ⟨(some 22), .none, (.build [(.int .i64 0), (.int .i64 0), (.int .i64 0), (.bool false)] [(0, (1, (.t 21)))]), 2, []⟩, ⟨(some 7), .none, (.newV [(.int .i64 0), (.int .i64 0), (.int .i64 0), (.bool false)]), 3, []⟩, ⟨.none, .none, (.store 4 (.t 7) (.t 22)), 4, []⟩]) (.seq (.reg false [⟨(some 23), .none, (.mov (.t 4)), 0, []⟩, ⟨(some 24), .none, (.call 67 [(.t 23)]), 1, []⟩, ⟨(some 25), .none, (.fadr 1 (.t 7)), 2, []⟩, ⟨.none, .none, (.store 1 (.t 25) (.t 24)), 3, []⟩]) (.seq (.reg false [⟨(some 26), .none, (.mov (.t 4)), 0, []⟩, ⟨(some 27), .none, (.call 67 [(.t 26)]), 1, []⟩, ⟨(some 28), .none, (.fadr 2 (.t 7)), 2, []⟩, ⟨.none, .none, (.store 1 (.t 28) (.t 27)), 3, []⟩]) (.seq (.reg false [⟨(some 29), .none, (.mov (.t 4)), 0, []⟩, ⟨(some 30), .none, (.call 67 [(.t 29)]), 1, []⟩, ⟨(some 8), .none, (.mov (.t 30)), 2, []⟩]) (.seq (.reg false [⟨(some 31), .none, (.mov (.t 8)), 0, []⟩, ⟨(some 32), .none, (.bin .eql (.t 31) (.c (.int .i64 1))), 1, []⟩, ⟨(some 33), .none, (.fadr 3 (.t 7)), 2, []⟩, ⟨.none, .none, (.store 1 (.t 33) (.t 32)), 3, []⟩]) (.reg false [⟨(some 34), .none, (.fadr 1 (.t 5)), 0, []⟩, ⟨(some 35), .none, (.load 1 false (.t 34)), 1, []⟩, ⟨(some 36), .none, (.load 4 true (.t 7)), 2, []⟩, ⟨(some 37), .none, (.mkV 1 4 [(.int .i64 0), (.int .i64 0), (.int .i64 0), (.bool false)] [(0, (.t 36))]), 3, []⟩, ⟨(some 38), .none, (.app 4 32 (.t 35) (.t 37)), 4, []⟩, ⟨(some 39), .none, (.fadr 1 (.t 5)), 5, []⟩, ⟨.none, .none, (.store 1 (.t 39) (.t 38)), 6, []⟩]))))))) (.reg false [⟨(some 40), .none, (.bin .add (.t 18) (.c (.int .i64 1))), 0, []⟩, ⟨(some 18), .none, (.mov (.t 40)), 1, []⟩]))))))) (.seq (.seq (.reg false [⟨(some 41), .none, (.mov (.t 4)), 0, []⟩, ⟨(some 42), .none, (.nilc (.t 41)), 1, []⟩, ⟨(some 43), .none, (.fadr 2 (.t 42)), 2, []⟩, ⟨(some 44), .none, (.load 1 false (.t 43)), 3, []⟩, ⟨(some 45), .none, (.mov (.t 44)), 4, []⟩, ⟨(some 46), (.some (45, false)), (.mov (.t 0)), 5, []⟩, ⟨(some 47), (.some (45, false)), (.bin .eql (.t 46) (.c (.string ⟨#[]⟩))), 6, []⟩, ⟨(some 48), .none, (.pick (.t 45) (.c (.bool true)) (.t 47)), 7, []⟩, ⟨(some 49), .none, (.mov (.t 48)), 8, []⟩, ⟨(some 50), (.some (49, false)), (.load 2 true (.t 5)), 9, []⟩, ⟨(some 51), (.some (49, false)), (.call 19 [(.t 50)]), 10, []⟩, ⟨(some 52), (.some (49, false)), (.mov (.t 0)), 11, []⟩, ⟨(some 53), (.some (49, false)), (.bin .neq (.t 51) (.t 52)), 12, []⟩, ⟨(some 54), .none, (.pick (.t 49) (.c (.bool true)) (.t 53)), 13, []⟩]) (.cond (.t 54) (.seq (.reg false [⟨(some 55), .none, (.build [(.int .i64 0), (.slice .none 0 0)] []), 0, []⟩, ⟨.none, .none, (.store 2 (.t 2) (.t 55)), 1, []⟩, ⟨(some 3), .none, (.mov (.c (.bool false))), 2, []⟩]) .ret) .skip)) (.seq (.reg false [⟨(some 56), .none, (.load 2 true (.t 5)), 0, []⟩, ⟨.none, .none, (.store 2 (.t 2) (.t 56)), 1, []⟩, ⟨(some 3), .none, (.mov (.c (.bool true))), 2, []⟩]) .ret))))))), [(.cell 2 2 true), (.t 3)]⟩
theorem k21 : EE.fns 21 = some c21 := by kernel_rfl
def c22 : CF := ⟨10, (.seq (.reg false [⟨(some 2), .none, (.boxV (.t 0)), 0, []⟩, ⟨(some 4), .none, (.mov (.c (.int .i64 0))), 1, []⟩]) (.seq (.reg false [⟨(some 5), .none, (.fadr 1 (.t 2)), 0, []⟩, ⟨(some 6), .none, (.load 1 false (.t 5)), 1, []⟩, ⟨(some 7), .none, (.mov (.t 1)), 2, []⟩, ⟨(some 8), .none, (.call 69 [(.t 6), (.t 7)]), 3, []⟩, ⟨(some 1), .none, (.mov (.t 8)), 4, []⟩]) (.seq (.reg false [⟨(some 9), .none, (.mov (.t 1)), 0, []⟩, ⟨(some 4), .none, (.mov (.t 9)), 1, []⟩]) .ret))), [(.t 4)]⟩
theorem k22 : EE.fns 22 = some c22 := by kernel_rfl
def c23 : CF := ⟨12, (.seq (.reg false [⟨(some 2), .none, (.boxV (.t 0)), 0, []⟩, ⟨(some 4), .none, (.mov (.c (.int .i64 0))), 1, []⟩]) (.seq (.reg false [⟨(some 5), .none, (.fadr 1 (.t 2)), 0, []⟩, ⟨(some 6), .none, (.load 1 false (.t 5)), 1, []⟩, ⟨(some 7), .none, (.mov (.t 1)), 2, []⟩, ⟨(some 8), .none, (.call 70 [(.t 6), (.t 7)]), 3, []⟩, ⟨(some 1), .none, (.mov (.t 8)), 4, []⟩]) (.seq (.seq (.reg false [⟨(some 9), .none, (.mov (.t 1)), 0, []⟩, ⟨(some 10), .none, (.bin .lss (.t 9) (.c (.int .i64 0))), 1, []⟩]) (.cond (.t 10) (.seq (.reg false [⟨(some 4), .none, (.mov (.c (.int .i64 (-1)))), 0, []⟩]) .ret) .skip)) (.seq (.reg false [⟨(some 11), .none, (.mov (.t 1)), 0, []⟩, ⟨(some 4), .none, (.mov (.t 11)), 1, []⟩]) .ret)))), [(.t 4)]⟩
theorem k23 : EE.fns 23 = some c23 := by kernel_rfl
def c58 : CF := ⟨15, (.seq (.reg false [⟨(some 6), .none, (.mov (.c (.bool false))), 0, []⟩]) (.seq (.reg false [⟨(some 7), .none, (.mov (.t 0)), 0, []⟩, ⟨(some 8), .none, (.mov (.t 1)), 1, []⟩, ⟨(some 9), .none, (.bin .geq (.t 7) (.t 8)), 2, []⟩, ⟨(some 10), .none, (.mov (.t 9)), 3, []⟩, ⟨(some 11), (.some (10, true)), (.mov (.t 0)), 4, []⟩, ⟨(some 12), (.some (10, true)), (.mov (.t 2)), 5, []⟩, ⟨(some 13), (.some (10, true)), (.bin .leq (.t 11) (.t 12)), 6, []⟩, ⟨(some 14), .none, (.pick (.t 10) (.t 13) (.c (.bool false))), 7, []⟩, ⟨(some 6), .none, (.mov (.t 14)), 8, []⟩]) .ret)), [(.t 6)]⟩
theorem k58 : EE.fns 58 = some c58 := by kernel_rfl
def c59 : CF := ⟨16, (.seq (.reg false [⟨(some 1), .none, (.boxV (.t 0)), 0, []⟩, ⟨(some 2), .none, (.mov (.c (.bool false))), 1, []⟩]) (.seq (.reg false [⟨(some 3), .none, (.fadr 0 (.t 1)), 0, []⟩, ⟨(some 4), .none, (.load 1 false (.t 3)), 1, []⟩, ⟨(some 5), .none, (.call 58 [(.t 4), (.c (.int .i64 0)), (.c (.int .i64 99))]), 2, []⟩, ⟨(some 6), .none, (.mov (.t 5)), 3, []⟩, ⟨(some 7), (.some (6, true)), (.fadr 1 (.t 1)), 4, []⟩, ⟨(some 8), (.some (6, true)), (.load 1 false (.t 7)), 5, []⟩, ⟨(some 9), (.some (6, true)), (.call 58 [(.t 8), (.c (.int .i64 1)), (.c (.int .i64 1000000))]), 6, []⟩, ⟨(some 10), .none, (.pick (.t 6) (.t 9) (.c (.bool false))), 7, []⟩, ⟨(some 11), .none, (.mov (.t 10)), 8, []⟩, ⟨(some 12), (.some (11, true)), (.fadr 2 (.t 1)), 9, []⟩, ⟨(some 13), (.some (11, true)), (.load 1 false (.t 12)), 10, []⟩, ⟨(some 14), (.some (11, true)), (.call 58 [(.t 13), (.c (.int .i64 1)), (.c (.int .i64 100000))]), 11, []⟩, ⟨(some 15), .none, (.pick (.t 11) (.t 14) (.c (.bool false))), 12, []⟩, ⟨(some 2), .none, (.mov (.t 15)), 13, []⟩]) .ret)), [(.t 2)]⟩
theorem k59 : EE.fns 59 = some c59 := by kernel_rfl
def c61 : CF := ⟨16, (.seq (.reg false [⟨(some 1), .none, (.boxV (.t 0)), 0, []⟩, ⟨(some 2), .none, (.mov (.c (.bool false))), 1, []⟩]) (.seq (.reg false [⟨(some 3), .none, (.fadr 0 (.t 1)), 0, []⟩, ⟨(some 4), .none, (.load 1 false (.t 3)), 1, []⟩, ⟨(some 5), .none, (.call 99 [(.t 4)]), 2, []⟩, ⟨(some 6), .none, (.mov (.t 5)), 3, []⟩, ⟨(some 7), (.some (6, true)), (.fadr 1 (.t 1)), 4, []⟩, ⟨(some 8), (.some (6, true)), (.load 1 false (.t 7)), 5, []⟩, ⟨(some 9), (.some (6, true)), (.call 100 [(.t 8)]), 6, []⟩, ⟨(some 10), .none, (.pick (.t 6) (.t 9) (.c (.bool false))), 7, []⟩, ⟨(some 11), .none, (.mov (.t 10)), 8, []⟩, ⟨(some 12), (.some (11, true)), (.fadr 2 (.t 1)), 9, []⟩, ⟨(some 13), (.some (11, true)), (.load 1 false (.t 12)), 10, []⟩, ⟨(some 14), (.some (11, true)), (.call 101 [(.t 13), (.c (.int .i64 1)), (.c (.int .i64 100000))]), 11, []⟩, ⟨(some 15), .none, (.pick (.t 11) (.t 14) (.c (.bool false))), 12, []⟩, ⟨(some 2), .none, (.mov (.t 15)), 13, []⟩]) .ret)), [(.t 2)]⟩
theorem k61 : EE.fns 61 = some c61 := by kernel_rfl
def c62 : CF := ⟨5, (.seq (.reg false [⟨(some 2), .none, (.mov (.c (.bool false))), 0, []⟩]) (.seq (.reg false [⟨(some 3), .none, (.mov (.t 0)), 0, []⟩, ⟨(some 4), .none, (.call 101 [(.t 3), (.c (.int .i64 0)), (.c (.int .i64 100000))]), 1, []⟩, ⟨(some 2), .none, (.mov (.t 4)), 2, []⟩]) .ret)), [(.t 2)]⟩
theorem k62 : EE.fns 62 = some c62 := by kernel_rfl
def c63 : CF := ⟨27, (.seq (.reg false [⟨(some 4), .none, (.mov (.c (.bool false))), 0, []⟩]) (.seq (.seq (.reg false [⟨(some 6), .none, (.mov (.t 0)), 0, []⟩, ⟨(some 7), .none, (.lenS (.t 6)), 1, []⟩, ⟨(some 8), .none, (.mov (.t 1)), 2, []⟩, ⟨(some 9), .none, (.lenS (.t 8)), 3, []⟩, ⟨(some 10), .none, (.bin .neq (.t 7) (.t 9)), 4, []⟩]) (.cond (.t 10) (.seq (.reg false [⟨(some 4), .none, (.mov (.c (.bool false))), 0, []⟩]) .ret) .skip)) (.seq (.seq (.reg false [⟨(some 5), .none, (.mov (.c (.int .i64 0))), 0, []⟩]) (.block 0 (.loop (.seq (.seq (.reg false [⟨(some 11), .none, (.mov (.t 5)), 0, []⟩, ⟨(some 12), .none, (.mov (.t 0)), 1, []⟩, ⟨(some 13), .none, (.lenS (.t 12)), 2, []⟩, ⟨(some 14), .none, (.bin .lss (.t 11) (.t 13)), 3, []⟩]) (.cond (.t 14) .skip (.exit 0))) (.seq (.block 1 (.seq (.reg true [⟨(some 17), .none, (.mov (.t 0)), 0, []⟩, ⟨(some 18), .none, (.mov (.t 5)), 1, []⟩, ⟨(some 19), .none, (.iadr 4 (.t 17) (.t 18)), 2, [0, 1]⟩, ⟨(some 20), .none, (.load 4 true (.t 19)), 3, [2, 0, 1]⟩, ⟨(some 21), .none, (.mov (.t 1)), 4, []⟩, ⟨(some 22), .none, (.mov (.t 5)), 5, []⟩, ⟨(some 23), .none, (.iadr 4 (.t 21) (.t 22)), 6, [4, 5]⟩, ⟨(some 24), .none, (.load 4 true (.t 23)), 7, [6, 4, 5]⟩, ⟨(some 25), .none, (.call 102 [(.t 20), (.t 24)]), 8, [3, 2, 0, 1, 7, 6, 4, 5]⟩, ⟨(some 26), .none, (.un .not (.t 25)), 9, [8, 3, 2, 0, 1, 7, 6, 4, 5]⟩]) (.cond (.t 26) (.seq (.reg false [⟨(some 4), .none, (.mov (.c (.bool false))), 0, []⟩]) .ret) .skip))) (.reg false [⟨(some 15), .none, (.mov (.t 5)), 0, []⟩, ⟨(some 16), .none, (.bin .add (.t 15) (.c (.int .i64 1))), 1, []⟩, ⟨(some 5), .none, (.mov (.t 16)), 2, []⟩])))))) (.seq (.reg false [⟨(some 4), .none, (.mov (.c (.bool true))), 0, []⟩]) .ret)))), [(.t 4)]⟩
theorem k63 : EE.fns 63 = some c63 := by kernel_rfl
def c64 : CF := ⟨25, (.seq (.reg false [⟨(some 2), .none, (.mov (.c (.string ⟨#[]⟩))), 0, []⟩]) (.seq (.seq (.reg false [⟨(some 4), .none, (.mov (.t 0)), 0, []⟩, ⟨(some 5), .none, (.call 58 [(.t 4), (.c (.int .i64 0)), (.c (.int .i64 562949953421311))]), 1, []⟩, ⟨(some 6), .none, (.un .not (.t 5)), 2, []⟩]) (.cond (.t 6) (.seq (.reg false [⟨(some 2), .none, (.mov (.c (.string ⟨#[]⟩))), 0, []⟩]) .ret) .skip)) (.seq (.reg false [⟨(some 7), .none, (.mkO 0 1 [(.int .u8 0)] []), 0, []⟩, ⟨(some 3), .none, (.mov (.t 7)), 1, []⟩]) (.seq (.block 0 (.loop (.seq (.seq (.reg false [⟨(some 8), .none, (.mov (.t 0)), 0, []⟩, ⟨(some 9), .none, (.bin .geq (.t 8) (.c (.int .i64 128))), 1, []⟩]) (.cond (.t 9) .skip (.exit 0))) (.block 1 (.seq (.reg false [⟨(some 10), .none, (.mov (.t 3)), 0, []⟩, ⟨(some 11), .none, (.mov (.t 0)), 1, []⟩, ⟨(some 12), .none, (.bin .rem (.t 11) (.c (.int .i64 128))), 2, []⟩, ⟨(some 13), .none, (.bin .add (.c (.int .i64 128)) (.t 12)), 3, []⟩, ⟨(some 14), .none, (.toInt .u8 (.t 13)), 4, []⟩, ⟨(some 15), .none, (.mkV 1 1 [(.int .u8 0)] [(0, (.t 14))]), 5, []⟩, ⟨(some 16), .none, (.app 1 1 (.t 10) (.t 15)), 6, []⟩, ⟨(some 3), .none, (.mov (.t 16)), 7, []⟩]) (.reg false [⟨(some 17), .none, (.mov (.t 0)), 0, []⟩, ⟨(some 18), .none, (.bin .quo (.t 17) (.c (.int .i64 128))), 1, []⟩, ⟨(some 0), .none, (.mov (.t 18)), 2, []⟩])))))) (.seq (.reg false [⟨(some 19), .none, (.mov (.t 3)), 0, []⟩, ⟨(some 20), .none, (.mov (.t 0)), 1, []⟩, ⟨(some 21), .none, (.toInt .u8 (.t 20)), 2, []⟩, ⟨(some 22), .none, (.mkV 1 1 [(.int .u8 0)] [(0, (.t 21))]), 3, []⟩, ⟨(some 23), .none, (.app 1 1 (.t 19) (.t 22)), 4, []⟩, ⟨(some 24), .none, (.b2s (.t 23)), 5, []⟩, ⟨(some 2), .none, (.mov (.t 24)), 6, []⟩]) .ret))))), [(.t 2)]⟩
theorem k64 : EE.fns 64 = some c64 := by kernel_rfl
def c65 : CF := ⟨25, (.seq (.reg false [⟨(some 2), .none, (.mov (.c (.string ⟨#[]⟩))), 0, []⟩]) (.seq (.seq (.reg false [⟨(some 4), .none, (.mov (.t 0)), 0, []⟩, ⟨(some 5), .none, (.call 101 [(.t 4), (.c (.int .i64 0)), (.c (.int .i64 562949953421311))]), 1, []⟩, ⟨(some 6), .none, (.un .not (.t 5)), 2, []⟩]) (.cond (.t 6) (.seq (.reg false [⟨(some 2), .none, (.mov (.c (.string ⟨#[]⟩))), 0, []⟩]) .ret) .skip)) (.seq (.reg false [⟨(some 7), .none, (.mkO 0 1 [(.int .u8 0)] []), 0, []⟩, ⟨(some 3), .none, (.mov (.t 7)), 1, []⟩]) (.seq (.block 0 (.loop (.seq (.seq (.reg false [⟨(some 8), .none, (.mov (.t 0)), 0, []⟩, ⟨(some 9), .none, (.bin .gtr (.t 8) (.c (.int .i64 127))), 1, []⟩]) (.cond (.t 9) .skip (.exit 0))) (.block 1 (.seq (.reg false [⟨(some 10), .none, (.mov (.t 3)), 0, []⟩, ⟨(some 11), .none, (.mov (.t 0)), 1, []⟩, ⟨(some 12), .none, (.bin .and (.t 11) (.c (.int .i64 127))), 2, []⟩, ⟨(some 13), .none, (.bin .or (.t 12) (.c (.int .i64 128))), 3, []⟩, ⟨(some 14), .none, (.toInt .u8 (.t 13)), 4, []⟩, ⟨(some 15), .none, (.mkV 1 1 [(.int .u8 0)] [(0, (.t 14))]), 5, []⟩, ⟨(some 16), .none, (.app 1 1 (.t 10) (.t 15)), 6, []⟩, ⟨(some 3), .none, (.mov (.t 16)), 7, []⟩]) (.reg false [⟨(some 17), .none, (.mov (.t 0)), 0, []⟩, ⟨(some 18), .none, (.bin .shr (.t 17) (.c (.int .u64 7))), 1, []⟩, ⟨(some 0), .none, (.mov (.t 18)), 2, []⟩])))))) (.seq (.reg false [⟨(some 19), .none, (.mov (.t 3)), 0, []⟩, ⟨(some 20), .none, (.mov (.t 0)), 1, []⟩, ⟨(some 21), .none, (.toInt .u8 (.t 20)), 2, []⟩, ⟨(some 22), .none, (.mkV 1 1 [(.int .u8 0)] [(0, (.t 21))]), 3, []⟩, ⟨(some 23), .none, (.app 1 1 (.t 19) (.t 22)), 4, []⟩, ⟨(some 24), .none, (.b2s (.t 23)), 5, []⟩, ⟨(some 2), .none, (.mov (.t 24)), 6, []⟩]) .ret))))), [(.t 2)]⟩
theorem k65 : EE.fns 65 = some c65 := by kernel_rfl
def c66 : CF := ⟨46, (.seq (.reg false [⟨(some 6), .none, (.mov (.c (.slice .none 0 0))), 0, []⟩, ⟨(some 7), .none, (.mov (.c (.int .i64 0))), 1, []⟩]) (.seq (.reg false [⟨(some 12), .none, (.mkO 0 1 [(.int .i64 0)] []), 0, []⟩, ⟨(some 8), .none, (.mov (.t 12)), 1, []⟩]) (.seq (.seq (.reg false [⟨(some 9), .none, (.mov (.c (.int .i64 0))), 0, []⟩]) (.block 0 (.loop (.seq (.seq (.reg false [⟨(some 13), .none, (.mov (.t 9)), 0, []⟩, ⟨(some 14), .none, (.mov (.t 2)), 1, []⟩, ⟨(some 15), .none, (.bin .lss (.t 13) (.t 14)), 2, []⟩]) (.cond (.t 15) .skip (.exit 0))) (.seq (.block 1 (.seq (.seq (.reg false [⟨(some 18), .none, (.mov (.t 1)), 0, []⟩, ⟨(some 19), .none, (.bin .lss (.t 18) (.c (.int .i64 0))), 1, []⟩, ⟨(some 20), .none, (.mov (.t 19)), 2, []⟩, ⟨(some 21), (.some (20, false)), (.mov (.t 1)), 3, []⟩, ⟨(some 22), (.some (20, false)), (.mov (.t 0)), 4, []⟩, ⟨(some 23), (.some (20, false)), (.lenT (.t 22)), 5, []⟩, ⟨(some 24), (.some (20, false)), (.bin .gtr (.t 21) (.t 23)), 6, []⟩, ⟨(some 25), .none, (.pick (.t 20) (.c (.bool true)) (.t 24)), 7, []⟩]) (.cond (.t 25) (.seq (.reg false [⟨(some 26), .none, (.mov (.t 8)), 0, []⟩, ⟨(some 6), .none, (.mov (.t 26)), 1, []⟩, ⟨(some 7), .none, (.mov (.c (.int .i64 (-1)))), 2, []⟩]) .ret) .skip)) (.seq (.reg false [⟨(some 28), .none, (.mov (.t 0)), 0, []⟩, ⟨(some 29), .none, (.mov (.t 1)), 1, []⟩, ⟨(some 30), .none, (.slcS (.t 28) (.some (.t 29)) .none), 2, []⟩, ⟨(some 31), .none, (.call 103 [(.t 30)]), 3, []⟩, ⟨(some 27), .none, (.mov (.t 31)), 4, []⟩, ⟨(some 32), .none, (.ext (.t 27) 0), 5, []⟩, ⟨(some 33), .none, (.ext (.t 27) 1), 6, []⟩, ⟨(some 10), .none, (.mov (.t 32)), 7, []⟩, ⟨(some 11), .none, (.mov (.t 33)), 8, []⟩]) (.seq (.seq (.reg false [⟨(some 34), .none, (.mov (.t 11)), 0, []⟩, ⟨(some 35), .none, (.bin .eql (.t 34) (.c (.int .i64 0))), 1, []⟩]) (.cond (.t 35) (.seq (.reg false [⟨(some 36), .none, (.mov (.t 8)), 0, []⟩, ⟨(some 6), .none, (.mov (.t 36)), 1, []⟩, ⟨(some 7), .none, (.mov (.c (.int .i64 (-1)))), 2, []⟩]) .ret) .skip)) (.seq (.reg false [⟨(some 37), .none, (.mov (.t 8)), 0, []⟩, ⟨(some 38), .none, (.mov (.t 10)), 1, []⟩, ⟨(some 39), .none, (.mkV 1 1 [(.int .i64 0)] [(0, (.t 38))]), 2, []⟩, ⟨(some 40), .none, (.app 1 8 (.t 37) (.t 39)), 3, []⟩, ⟨(some 8), .none, (.mov (.t 40)), 4, []⟩]) (.reg false [⟨(some 41), .none, (.mov (.t 1)), 0, []⟩, ⟨(some 42), .none, (.mov (.t 11)), 1, []⟩, ⟨(some 43), .none, (.bin .add (.t 41) (.t 42)), 2, []⟩, ⟨(some 1), .none, (.mov (.t 43)), 3, []⟩])))))) (.reg false [⟨(some 16), .none, (.mov (.t 9)), 0, []⟩, ⟨(some 17), .none, (.bin .add (.t 16) (.c (.int .i64 1))), 1, []⟩, ⟨(some 9), .none, (.mov (.t 17)), 2, []⟩])))))) (.seq (.reg false [⟨(some 44), .none, (.mov (.t 8)), 0, []⟩, ⟨(some 45), .none, (.mov (.t 1)), 1, []⟩, ⟨(some 6), .none, (.mov (.t 44)), 2, []⟩, ⟨(some 7), .none, (.mov (.t 45)), 3, []⟩]) .ret)))), [(.t 6), (.t 7)]⟩
theorem k66 : EE.fns 66 = some c66 := by kernel_rfl
def c67 : CF := ⟨33, (.seq (.reg false [⟨(some 2), .none, (.mov (.c (.int .i64 0))), 0, []⟩]) (.seq (.reg true [⟨(some 6), .none, (.mov (.t 0)), 0, []⟩, ⟨(some 7), .none, (.nilc (.t 6)), 1, [0]⟩, ⟨(some 8), .none, (.fadr 0 (.t 7)), 2, [1, 0]⟩, ⟨(some 9), .none, (.load 1 false (.t 8)), 3, [2, 1, 0]⟩, ⟨(some 10), .none, (.mov (.t 0)), 4, []⟩, ⟨(some 11), .none, (.nilc (.t 10)), 5, [4]⟩, ⟨(some 12), .none, (.fadr 1 (.t 11)), 6, [5, 4]⟩, ⟨(some 13), .none, (.load 1 false (.t 12)), 7, [6, 5, 4]⟩, ⟨(some 14), .none, (.call 104 [(.t 9), (.t 13)]), 8, [3, 2, 1, 0, 7, 6, 5, 4]⟩, ⟨(some 5), .none, (.mov (.t 14)), 9, [8, 3, 2, 1, 0, 7, 6, 5, 4]⟩, ⟨(some 15), .none, (.ext (.t 5) 0), 10, [9, 8, 3, 2, 1, 0, 7, 6, 5, 4]⟩, ⟨(some 16), .none, (.ext (.t 5) 1), 11, [9, 8, 3, 2, 1, 0, 7, 6, 5, 4]⟩, ⟨(some 3), .none, (.mov (.t 15)), 12, [10, 9, 8, 3, 2, 1, 0, 7, 6, 5, 4]⟩, ⟨(some 4), .none, (.mov (.t 16)), 13, [11, 9, 8, 3, 2, 1, 0, 7, 6, 5, 4, 12, 10]⟩]) (.seq (.seq (.reg false [⟨(some 17), .none, (.mov (.t 0)), 0, []⟩, ⟨(some 18), .none, (.nilc (.t 17)), 1, []⟩, ⟨(some 19), .none, (.fadr 2 (.t 18)), 2, []⟩, ⟨(some 20), .none, (.load 1 false (.t 19)), 3, []⟩, ⟨(some 21), .none, (.mov (.t 20)), 4, []⟩, ⟨(some 22), (.some (21, false)), (.mov (.t 3)), 5, []⟩, ⟨(some 23), (.some (21, false)), (.bin .lss (.t 22) (.c (.int .i64 0))), 6, []⟩, ⟨(some 24), .none, (.pick (.t 21) (.c (.bool true)) (.t 23)), 7, []⟩]) (.cond (.t 24) (.seq (.reg false [⟨(some 25), .none, (.mov (.t 0)), 0, []⟩, ⟨(some 26), .none, (.nilc (.t 25)), 1, []⟩, ⟨(some 27), .none, (.fadr 2 (.t 26)), 2, []⟩, ⟨.none, .none, (.store 1 (.t 27) (.c (.bool true))), 3, []⟩]) (.seq (.reg false [⟨(some 2), .none, (.mov (.c (.int .i64 0))), 0, []⟩]) .ret)) .skip)) (.seq (.reg false [⟨(some 28), .none, (.mov (.t 0)), 0, []⟩, ⟨(some 29), .none, (.mov (.t 4)), 1, []⟩, ⟨(some 30), .none, (.nilc (.t 28)), 2, []⟩, ⟨(some 31), .none, (.fadr 1 (.t 30)), 3, []⟩, ⟨.none, .none, (.store 1 (.t 31) (.t 29)), 4, []⟩]) (.seq (.reg false [⟨(some 32), .none, (.mov (.t 3)), 0, []⟩, ⟨(some 2), .none, (.mov (.t 32)), 1, []⟩]) .ret))))), [(.t 2)]⟩
theorem k67 : EE.fns 67 = some c67 := by kernel_rfl
def c68 : CF := ⟨19, (.seq (.reg false [⟨(some 4), .none, (.mov (.c (.int .i64 0))), 0, []⟩]) (.seq (.reg false [⟨(some 6), .none, (.mov (.t 0)), 0, []⟩, ⟨(some 7), .none, (.call 67 [(.t 6)]), 1, []⟩, ⟨(some 5), .none, (.mov (.t 7)), 2, []⟩]) (.seq (.seq (.reg false [⟨(some 8), .none, (.mov (.t 5)), 0, []⟩, ⟨(some 9), .none, (.mov (.t 1)), 1, []⟩, ⟨(some 10), .none, (.bin .gtr (.t 8) (.t 9)), 2, []⟩]) (.cond (.t 10) (.reg false [⟨(some 11), .none, (.mov (.t 0)), 0, []⟩, ⟨(some 12), .none, (.nilc (.t 11)), 1, []⟩, ⟨(some 13), .none, (.fadr 2 (.t 12)), 2, []⟩, ⟨.none, .none, (.store 1 (.t 13) (.c (.bool true))), 3, []⟩]) .skip)) (.seq (.seq (.reg false [⟨(some 14), .none, (.mov (.t 0)), 0, []⟩, ⟨(some 15), .none, (.nilc (.t 14)), 1, []⟩, ⟨(some 16), .none, (.fadr 2 (.t 15)), 2, []⟩, ⟨(some 17), .none, (.load 1 false (.t 16)), 3, []⟩]) (.cond (.t 17) (.seq (.reg false [⟨(some 4), .none, (.mov (.c (.int .i64 0))), 0, []⟩]) .ret) .skip)) (.seq (.reg false [⟨(some 18), .none, (.mov (.t 5)), 0, []⟩, ⟨(some 4), .none, (.mov (.t 18)), 1, []⟩]) .ret))))), [(.t 4)]⟩
theorem k68 : EE.fns 68 = some c68 := by kernel_rfl
def c69 : CF := ⟨43, (.seq (.reg false [⟨(some 4), .none, (.mov (.c (.int .i64 0))), 0, []⟩]) (.seq (.seq (.reg false [⟨(some 5), .none, (.mov (.c (.int .i64 0))), 0, []⟩]) (.block 0 (.loop (.seq (.seq (.reg false [⟨(some 6), .none, (.mov (.t 5)), 0, []⟩, ⟨(some 7), .none, (.mov (.t 0)), 1, []⟩, ⟨(some 8), .none, (.lenS (.t 7)), 2, []⟩, ⟨(some 9), .none, (.bin .lss (.t 6) (.t 8)), 3, []⟩]) (.cond (.t 9) .skip (.exit 0))) (.seq (.block 1 (.seq (.reg false [⟨(some 12), .none, (.mov (.t 0)), 0, []⟩, ⟨(some 13), .none, (.mov (.t 5)), 1, []⟩, ⟨(some 14), .none, (.mov (.t 1)), 2, []⟩, ⟨(some 15), .none, (.iadr 4 (.t 12) (.t 13)), 3, []⟩, ⟨(some 16), .none, (.fadr 0 (.t 15)), 4, []⟩, ⟨.none, .none, (.store 1 (.t 16) (.t 14)), 5, []⟩]) (.seq (.reg false [⟨(some 17), .none, (.mov (.t 1)), 0, []⟩, ⟨(some 18), .none, (.bin .add (.t 17) (.c (.int .i64 1))), 1, []⟩, ⟨(some 1), .none, (.mov (.t 18)), 2, []⟩]) (.seq (.reg false [⟨(some 19), .none, (.mov (.t 0)), 0, []⟩, ⟨(some 20), .none, (.mov (.t 5)), 1, []⟩, ⟨(some 21), .none, (.mov (.t 1)), 2, []⟩, ⟨(some 22), .none, (.iadr 4 (.t 19) (.t 20)), 3, []⟩, ⟨(some 23), .none, (.fadr 1 (.t 22)), 4, []⟩, ⟨.none, .none, (.store 1 (.t 23) (.t 21)), 5, []⟩]) (.seq (.reg false [⟨(some 24), .none, (.mov (.t 1)), 0, []⟩, ⟨(some 25), .none, (.bin .add (.t 24) (.c (.int .i64 1))), 1, []⟩, ⟨(some 1), .none, (.mov (.t 25)), 2, []⟩]) (.seq (.reg false [⟨(some 26), .none, (.mov (.t 0)), 0, []⟩, ⟨(some 27), .none, (.mov (.t 5)), 1, []⟩, ⟨(some 28), .none, (.mov (.t 1)), 2, []⟩, ⟨(some 29), .none, (.iadr 4 (.t 26) (.t 27)), 3, []⟩, ⟨(some 30), .none, (.fadr 2 (.t 29)), 4, []⟩, ⟨.none, .none, (.store 1 (.t 30) (.t 28)), 5, []⟩]) (.seq (.reg false [⟨(some 31), .none, (.mov (.t 1)), 0, []⟩, ⟨(some 32), .none, (.bin .add (.t 31) (.c (.int .i64 1))), 1, []⟩, ⟨(some 1), .none, (.mov (.t 32)), 2, []⟩]) (.seq (.reg false [⟨(some 33), .none, (.mov (.t 0)), 0, []⟩, ⟨(some 34), .none, (.mov (.t 5)), 1, []⟩, ⟨(some 35), .none, (.mov (.t 1)), 2, []⟩, ⟨(some 36), .none, (.bin .rem (.t 35) (.c (.int .i64 3))), 3, []⟩, ⟨(some 37), .none, (.bin .eql (.t 36) (.c (.int .i64 0))), 4, []⟩, ⟨(some 38), .none, (.iadr 4 (.t 33) (.t 34)), 5, []⟩, ⟨(some 39), .none, (.fadr 3 (.t 38)), 6, []⟩, ⟨.none, .none, (.store 1 (.t 39) (.t 37)), 7, []⟩]) (.reg false [⟨(some 40), .none, (.mov (.t 1)), 0, []⟩, ⟨(some 41), .none, (.bin .add (.t 40) (.c (.int .i64 1))), 1, []⟩, ⟨(some 1), .none, (.mov (.t 41)), 2, []⟩]))))))))) (.reg false [⟨(some 10), .none, (.mov (.t 5)), 0, []⟩, ⟨(some 11), .none, (.bin .add (.t 10) (.c (.int .i64 1))), 1, []⟩, ⟨(some 5), .none, (.mov (.t 11)), 2, []⟩])))))) (.seq (.reg false [⟨(some 42), .none, (.mov (.t 1)), 0, []⟩, ⟨(some 4), .none, (.mov (.t 42)), 1, []⟩]) .ret))), [(.t 4)]⟩
theorem k69 : EE.fns 69 = some c69 := by kernel_rfl
def c70 : CF := ⟨51, (.seq (.reg false [⟨(some 4), .none, (.mov (.c (.int .i64 0))), 0, []⟩]) (.seq (.seq (.reg false [⟨(some 5), .none, (.mov (.c (.int .i64 0))), 0, []⟩]) (.block 0 (.loop (.seq (.seq (.reg false [⟨(some 6), .none, (.mov (.t 5)), 0, []⟩, ⟨(some 7), .none, (.mov (.t 0)), 1, []⟩, ⟨(some 8), .none, (.lenS (.t 7)), 2, []⟩, ⟨(some 9), .none, (.bin .lss (.t 6) (.t 8)), 3, []⟩]) (.cond (.t 9) .skip (.exit 0))) (.seq (.block 1 (.seq (.seq (.reg false [⟨(some 12), .none, (.mov (.t 0)), 0, []⟩, ⟨(some 13), .none, (.mov (.t 5)), 1, []⟩, ⟨(some 14), .none, (.iadr 4 (.t 12) (.t 13)), 2, []⟩, ⟨(some 15), .none, (.fadr 0 (.t 14)), 3, []⟩, ⟨(some 16), .none, (.load 1 false (.t 15)), 4, []⟩, ⟨(some 17), .none, (.mov (.t 1)), 5, []⟩, ⟨(some 18), .none, (.bin .neq (.t 16) (.t 17)), 6, []⟩]) (.cond (.t 18) (.seq (.reg false [⟨(some 4), .none, (.mov (.c (.int .i64 (-1)))), 0, []⟩]) .ret) .skip)) (.seq (.reg false [⟨(some 19), .none, (.mov (.t 1)), 0, []⟩, ⟨(some 20), .none, (.bin .add (.t 19) (.c (.int .i64 1))), 1, []⟩, ⟨(some 1), .none, (.mov (.t 20)), 2, []⟩]) (.seq (.seq (.reg false [⟨(some 21), .none, (.mov (.t 0)), 0, []⟩, ⟨(some 22), .none, (.mov (.t 5)), 1, []⟩, ⟨(some 23), .none, (.iadr 4 (.t 21) (.t 22)), 2, []⟩, ⟨(some 24), .none, (.fadr 1 (.t 23)), 3, []⟩, ⟨(some 25), .none, (.load 1 false (.t 24)), 4, []⟩, ⟨(some 26), .none, (.mov (.t 1)), 5, []⟩, ⟨(some 27), .none, (.bin .neq (.t 25) (.t 26)), 6, []⟩]) (.cond (.t 27) (.seq (.reg false [⟨(some 4), .none, (.mov (.c (.int .i64 (-1)))), 0, []⟩]) .ret) .skip)) (.seq (.reg false [⟨(some 28), .none, (.mov (.t 1)), 0, []⟩, ⟨(some 29), .none, (.bin .add (.t 28) (.c (.int .i64 1))), 1, []⟩, ⟨(some 1), .none, (.mov (.t 29)), 2, []⟩]) (.seq (.seq (.reg false [⟨(some 30), .none, (.mov (.t 0)), 0, []⟩, ⟨(some 31), .none, (.mov (.t 5)), 1, []⟩, ⟨(some 32), .none, (.iadr 4 (.t 30) (.t 31)), 2, []⟩, ⟨(some 33), .none, (.fadr 2 (.t 32)), 3, []⟩, ⟨(some 34), .none, (.load 1 false (.t 33)), 4, []⟩, ⟨(some 35), .none, (.mov (.t 1)), 5, []⟩, ⟨(some 36), .none, (.bin .neq (.t 34) (.t 35)), 6, []⟩]) (.cond (.t 36) (.seq (.reg false [⟨(some 4), .none, (.mov (.c (.int .i64 (-1)))), 0, []⟩]) .ret) .skip)) (.seq (.reg false [⟨(some 37), .none, (.mov (.t 1)), 0, []⟩, ⟨(some 38), .none, (.bin .add (.t 37) (.c (.int .i64 1))), 1, []⟩, ⟨(some 1), .none, (.mov (.t 38)), 2, []⟩]) (.seq (.seq (.reg false [⟨(some 39), .none, (.mov (.t 0)), 0, []⟩, ⟨(some 40), .none, (.mov (.t 5)), 1, []⟩, ⟨(some 41), .none, (.iadr 4 (.t 39) (.t 40)), 2, []⟩, ⟨(some 42), .none, (.fadr 3 (.t 41)), 3, []⟩, ⟨(some 43), .none, (.load 1 false (.t 42)), 4, []⟩, ⟨(some 44), .none, (.mov (.t 1)), 5, []⟩, ⟨(some 45), .none, (.bin .rem (.t 44) (.c (.int .i64 3))), 6, []⟩, ⟨(some 46), .none, (.bin .eql (.t 45) (.c (.int .i64 0))), 7, []⟩, ⟨(some 47), .none, (.beq true (.t 43) (.t 46)), 8, []⟩]) (.cond (.t 47) (.seq (.reg false [⟨(some 4), .none, (.mov (.c (.int .i64 (-1)))), 0, []⟩]) .ret) .skip)) (.reg false [⟨(some 48), .none, (.mov (.t 1)), 0, []⟩, ⟨(some 49), .none, (.bin .add (.t 48) (.c (.int .i64 1))), 1, []⟩, ⟨(some 1), .none, (.mov (.t 49)), 2, []⟩]))))))))) (.reg false [⟨(some 10), .none, (.mov (.t 5)), 0, []⟩, ⟨(some 11), .none, (.bin .add (.t 10) (.c (.int .i64 1))), 1, []⟩, ⟨(some 5), .none, (.mov (.t 11)), 2, []⟩])))))) (.seq (.reg false [⟨(some 50), .none, (.mov (.t 1)), 0, []⟩, ⟨(some 4), .none, (.mov (.t 50)), 1, []⟩]) .ret))), [(.t 4)]⟩
theorem k70 : EE.fns 70 = some c70 := by kernel_rfl
def c99 : CF := ⟨5, (.seq (.reg false [⟨(some 2), .none, (.mov (.c (.bool false))), 0, []⟩]) (.seq (.reg false [⟨(some 3), .none, (.mov (.t 0)), 0, []⟩, ⟨(some 4), .none, (.call 101 [(.t 3), (.c (.int .i64 0)), (.c (.int .i64 99))]), 1, []⟩, ⟨(some 2), .none, (.mov (.t 4)), 2, []⟩]) .ret)), [(.t 2)]⟩
theorem k99 : EE.fns 99 = some c99 := by kernel_rfl
def c100 : CF := ⟨5, (.seq (.reg false [⟨(some 2), .none, (.mov (.c (.bool false))), 0, []⟩]) (.seq (.reg false [⟨(some 3), .none, (.mov (.t 0)), 0, []⟩, ⟨(some 4), .none, (.call 101 [(.t 3), (.c (.int .i64 1)), (.c (.int .i64 1000000))]), 1, []⟩, ⟨(some 2), .none, (.mov (.t 4)), 2, []⟩]) .ret)), [(.t 2)]⟩
theorem k100 : EE.fns 100 = some c100 := by kernel_rfl
def c101 : CF := ⟨15, (.seq (.reg false [⟨(some 6), .none, (.mov (.c (.bool false))), 0, []⟩]) (.seq (.reg false [⟨(some 7), .none, (.mov (.t 0)), 0, []⟩, ⟨(some 8), .none, (.mov (.t 1)), 1, []⟩, ⟨(some 9), .none, (.bin .geq (.t 7) (.t 8)), 2, []⟩, ⟨(some 10), .none, (.mov (.t 9)), 3, []⟩, ⟨(some 11), (.some (10, true)), (.mov (.t 0)), 4, []⟩, ⟨(some 12), (.some (10, true)), (.mov (.t 2)), 5, []⟩, ⟨(some 13), (.some (10, true)), (.bin .leq (.t 11) (.t 12)), 6, []⟩, ⟨(some 14), .none, (.pick (.t 10) (.t 13) (.c (.bool false))), 7, []⟩, ⟨(some 6), .none, (.mov (.t 14)), 8, []⟩]) .ret)), [(.t 6)]⟩
theorem k101 : EE.fns 101 = some c101 := by kernel_rfl
def c102 : CF := ⟨25, (.seq (.reg false [⟨(some 2), .none, (.boxV (.t 0)), 0, []⟩, ⟨(some 3), .none, (.boxV (.t 1)), 1, []⟩, ⟨(some 4), .none, (.mov (.c (.bool false))), 2, []⟩]) (.seq (.seq (.reg false [⟨(some 5), .none, (.fadr 0 (.t 2)), 0, []⟩, ⟨(some 6), .none, (.load 1 false (.t 5)), 1, []⟩, ⟨(some 7), .none, (.fadr 0 (.t 3)), 2, []⟩, ⟨(some 8), .none, (.load 1 false (.t 7)), 3, []⟩, ⟨(some 9), .none, (.bin .neq (.t 6) (.t 8)), 4, []⟩]) (.cond (.t 9) (.seq (.reg false [⟨(some 4), .none, (.mov (.c (.bool false))), 0, []⟩]) .ret) .skip)) (.seq (.seq (.reg false [⟨(some 10), .none, (.fadr 1 (.t 2)), 0, []⟩, ⟨(some 11), .none, (.load 1 false (.t 10)), 1, []⟩, ⟨(some 12), .none, (.fadr 1 (.t 3)), 2, []⟩, ⟨(some 13), .none, (.load 1 false (.t 12)), 3, []⟩, ⟨(some 14), .none, (.bin .neq (.t 11) (.t 13)), 4, []⟩]) (.cond (.t 14) (.seq (.reg false [⟨(some 4), .none, (.mov (.c (.bool false))), 0, []⟩]) .ret) .skip)) (.seq (.seq (.reg false [⟨(some 15), .none, (.fadr 2 (.t 2)), 0, []⟩, ⟨(some 16), .none, (.load 1 false (.t 15)), 1, []⟩, ⟨(some 17), .none, (.fadr 2 (.t 3)), 2, []⟩, ⟨(some 18), .none, (.load 1 false (.t 17)), 3, []⟩, ⟨(some 19), .none, (.bin .neq (.t 16) (.t 18)), 4, []⟩]) (.cond (.t 19) (.seq (.reg false [⟨(some 4), .none, (.mov (.c (.bool false))), 0, []⟩]) .ret) .skip)) (.seq (.seq (.reg false [⟨(some 20), .none, (.fadr 3 (.t 2)), 0, []⟩, ⟨(some 21), .none, (.load 1 false (.t 20)), 1, []⟩, ⟨(some 22), .none, (.fadr 3 (.t 3)), 2, []⟩, ⟨(some 23), .none, (.load 1 false (.t 22)), 3, []⟩, ⟨(some 24), .none, (.beq true (.t 21) (.t 23)), 4, []⟩]) (.cond (.t 24) (.seq (.reg false [⟨(some 4), .none, (.mov (.c (.bool false))), 0, []⟩]) .ret) .skip)) (.seq (.reg false [⟨(some 4), .none, (.mov (.c (.bool true))), 0, []⟩]) .ret)))))), [(.t 4)]⟩
theorem k102 : EE.fns 102 = some c102 := by kernel_rfl
def c103 : CF := ⟨39, (.seq (.reg false [⟨(some 2), .none, (.mov (.c (.int .i64 0))), 0, []⟩, ⟨(some 3), .none, (.mov (.c (.int .i64 0))), 1, []⟩]) (.seq (.seq (.reg false [⟨(some 4), .none, (.mov (.c (.int .i64 1))), 0, []⟩]) (.block 0 (.loop (.seq (.seq (.reg false [⟨(some 7), .none, (.mov (.t 4)), 0, []⟩, ⟨(some 8), .none, (.bin .leq (.t 7) (.c (.int .i64 7))), 1, []⟩, ⟨(some 9), .none, (.mov (.t 8)), 2, []⟩, ⟨(some 10), (.some (9, true)), (.mov (.t 4)), 3, []⟩, ⟨(some 11), (.some (9, true)), (.mov (.t 0)), 4, []⟩, ⟨(some 12), (.some (9, true)), (.lenT (.t 11)), 5, []⟩, ⟨(some 13), (.some (9, true)), (.bin .leq (.t 10) (.t 12)), 6, []⟩, ⟨(some 14), .none, (.pick (.t 9) (.t 13) (.c (.bool false))), 7, []⟩]) (.cond (.t 14) .skip (.exit 0))) (.seq (.block 1 (.seq (.reg false [⟨(some 5), .none, (.mov (.c (.int .i64 0))), 0, []⟩]) (.seq (.seq (.reg false [⟨(some 17), .none, (.mov (.t 4)), 0, []⟩, ⟨(some 18), .none, (.bin .sub (.t 17) (.c (.int .i64 1))), 1, []⟩, ⟨(some 6), .none, (.mov (.t 18)), 2, []⟩]) (.block 2 (.loop (.seq (.seq (.reg false [⟨(some 19), .none, (.mov (.t 6)), 0, []⟩, ⟨(some 20), .none, (.bin .geq (.t 19) (.c (.int .i64 0))), 1, []⟩]) (.cond (.t 20) .skip (.exit 2))) (.seq (.block 3 (.reg false [⟨(some 23), .none, (.mov (.t 5)), 0, []⟩, ⟨(some 24), .none, (.bin .mul (.t 23) (.c (.int .i64 128))), 1, []⟩, ⟨(some 25), .none, (.mov (.t 0)), 2, []⟩, ⟨(some 26), .none, (.mov (.t 6)), 3, []⟩, ⟨(some 27), .none, (.idx (.t 25) (.t 26)), 4, []⟩, ⟨(some 28), .none, (.toInt .i64 (.t 27)), 5, []⟩, ⟨(some 29), .none, (.bin .rem (.t 28) (.c (.int .i64 128))), 6, []⟩, ⟨(some 30), .none, (.bin .add (.t 24) (.t 29)), 7, []⟩, ⟨(some 5), .none, (.mov (.t 30)), 8, []⟩])) (.reg false [⟨(some 21), .none, (.mov (.t 6)), 0, []⟩, ⟨(some 22), .none, (.bin .sub (.t 21) (.c (.int .i64 1))), 1, []⟩, ⟨(some 6), .none, (.mov (.t 22)), 2, []⟩])))))) (.seq (.reg true [⟨(some 31), .none, (.mov (.t 5)), 0, []⟩, ⟨(some 32), .none, (.call 64 [(.t 31)]), 1, [0]⟩, ⟨(some 33), .none, (.mov (.t 0)), 2, []⟩, ⟨(some 34), .none, (.mov (.t 4)), 3, []⟩, ⟨(some 35), .none, (.slcS (.t 33) .none (.some (.t 34))), 4, [2, 3]⟩, ⟨(some 36), .none, (.bin .eql (.t 32) (.t 35)), 5, [1, 0, 4, 2, 3]⟩]) (.cond (.t 36) (.seq (.reg false [⟨(some 37), .none, (.mov (.t 5)), 0, []⟩, ⟨(some 38), .none, (.mov (.t 4)), 1, []⟩, ⟨(some 2), .none, (.mov (.t 37)), 2, []⟩, ⟨(some 3), .none, (.mov (.t 38)), 3, []⟩]) .ret) .skip))))) (.reg false [⟨(some 15), .none, (.mov (.t 4)), 0, []⟩, ⟨(some 16), .none, (.bin .add (.t 15) (.c (.int .i64 1))), 1, []⟩, ⟨(some 4), .none, (.mov (.t 16)), 2, []⟩])))))) (.seq (.reg false [⟨(some 2), .none, (.mov (.c (.int .i64 0))), 0, []⟩, ⟨(some 3), .none, (.mov (.c (.int .i64 0))), 1, []⟩]) .ret))), [(.t 2), (.t 3)]⟩
theorem k103 : EE.fns 103 = some c103 := by kernel_rfl
def c104 : CF := ⟨22, (.seq (.reg false [⟨(some 4), .none, (.mov (.c (.int .i64 0))), 0, []⟩, ⟨(some 5), .none, (.mov (.c (.int .i64 0))), 1, []⟩]) (.seq (.reg false [⟨(some 9), .none, (.mov (.t 0)), 0, []⟩, ⟨(some 10), .none, (.mov (.t 1)), 1, []⟩, ⟨(some 11), .none, (.slcS (.t 9) (.some (.t 10)) .none), 2, []⟩, ⟨(some 12), .none, (.call 119 [(.t 11)]), 3, []⟩, ⟨(some 8), .none, (.mov (.t 12)), 4, []⟩, ⟨(some 13), .none, (.ext (.t 8) 0), 5, []⟩, ⟨(some 14), .none, (.ext (.t 8) 1), 6, []⟩, ⟨(some 6), .none, (.mov (.t 13)), 7, []⟩, ⟨(some 7), .none, (.mov (.t 14)), 8, []⟩]) (.seq (.seq (.reg false [⟨(some 15), .none, (.mov (.t 7)), 0, []⟩, ⟨(some 16), .none, (.bin .eql (.t 15) (.c (.int .i64 0))), 1, []⟩]) (.cond (.t 16) (.seq (.reg false [⟨(some 17), .none, (.mov (.t 1)), 0, []⟩, ⟨(some 4), .none, (.mov (.c (.int .i64 (-1)))), 1, []⟩, ⟨(some 5), .none, (.mov (.t 17)), 2, []⟩]) .ret) .skip)) (.seq (.reg false [⟨(some 18), .none, (.mov (.t 6)), 0, []⟩, ⟨(some 19), .none, (.mov (.t 1)), 1, []⟩, ⟨(some 20), .none, (.mov (.t 7)), 2, []⟩, ⟨(some 21), .none, (.bin .add (.t 19) (.t 20)), 3, []⟩, ⟨(some 4), .none, (.mov (.t 18)), 4, []⟩, ⟨(some 5), .none, (.mov (.t 21)), 5, []⟩]) .ret)))), [(.t 4), (.t 5)]⟩
theorem k104 : EE.fns 104 = some c104 := by kernel_rfl
def c119 : CF := ⟨40, (.seq (.reg false [⟨(some 2), .none, (.mov (.c (.int .i64 0))), 0, []⟩, ⟨(some 3), .none, (.mov (.c (.int .i64 0))), 1, []⟩]) (.seq (.reg false [⟨(some 4), .none, (.mov (.c (.int .i64 0))), 0, []⟩]) (.seq (.seq (.reg false [⟨(some 5), .none, (.mov (.c (.int .i64 0))), 0, []⟩]) (.block 0 (.loop (.seq (.seq (.reg false [⟨(some 6), .none, (.mov (.t 5)), 0, []⟩, ⟨(some 7), .none, (.mov (.t 0)), 1, []⟩, ⟨(some 8), .none, (.lenT (.t 7)), 2, []⟩, ⟨(some 9), .none, (.bin .lss (.t 6) (.t 8)), 3, []⟩, ⟨(some 10), .none, (.mov (.t 9)), 4, []⟩, ⟨(some 11), (.some (10, true)), (.mov (.t 5)), 5, []⟩, ⟨(some 12), (.some (10, true)), (.bin .lss (.t 11) (.c (.int .i64 7))), 6, []⟩, ⟨(some 13), .none, (.pick (.t 10) (.t 12) (.c (.bool false))), 7, []⟩]) (.cond (.t 13) .skip (.exit 0))) (.seq (.block 1 (.seq (.reg false [⟨(some 16), .none, (.mov (.t 4)), 0, []⟩, ⟨(some 17), .none, (.mov (.t 0)), 1, []⟩, ⟨(some 18), .none, (.mov (.t 5)), 2, []⟩, ⟨(some 19), .none, (.idx (.t 17) (.t 18)), 3, []⟩, ⟨(some 20), .none, (.bin .and (.t 19) (.c (.int .u8 127))), 4, []⟩, ⟨(some 21), .none, (.toInt .i64 (.t 20)), 5, []⟩, ⟨(some 22), .none, (.mov (.t 5)), 6, []⟩, ⟨(some 23), .none, (.bin .mul (.c (.int .i64 7)) (.t 22)), 7, []⟩, ⟨(some 24), .none, (.bin .shl (.t 21) (.t 23)), 8, []⟩, ⟨(some 25), .none, (.bin .or (.t 16) (.t 24)), 9, []⟩, ⟨(some 4), .none, (.mov (.t 25)), 10, []⟩]) (.seq (.reg false [⟨(some 26), .none, (.mov (.t 0)), 0, []⟩, ⟨(some 27), .none, (.mov (.t 5)), 1, []⟩, ⟨(some 28), .none, (.idx (.t 26) (.t 27)), 2, []⟩, ⟨(some 29), .none, (.bin .lss (.t 28) (.c (.int .u8 128))), 3, []⟩]) (.cond (.t 29) (.seq (.seq (.reg true [⟨(some 30), .none, (.mov (.t 4)), 0, []⟩, ⟨(some 31), .none, (.call 65 [(.t 30)]), 1, [0]⟩, ⟨(some 32), .none, (.mov (.t 0)), 2, []⟩, ⟨(some 33), .none, (.mov (.t 5)), 3, []⟩, ⟨(some 34), .none, (.bin .add (.t 33) (.c (.int .i64 1))), 4, [3]⟩, ⟨(some 35), .none, (.slcS (.t 32) .none (.some (.t 34))), 5, [2, 4, 3]⟩, ⟨(some 36), .none, (.bin .neq (.t 31) (.t 35)), 6, [1, 0, 5, 2, 4, 3]⟩]) (.cond (.t 36) (.seq (.reg false [⟨(some 2), .none, (.mov (.c (.int .i64 0))), 0, []⟩, ⟨(some 3), .none, (.mov (.c (.int .i64 0))), 1, []⟩]) .ret) .skip)) (.seq (.reg false [⟨(some 37), .none, (.mov (.t 4)), 0, []⟩, ⟨(some 38), .none, (.mov (.t 5)), 1, []⟩, ⟨(some 39), .none, (.bin .add (.t 38) (.c (.int .i64 1))), 2, []⟩, ⟨(some 2), .none, (.mov (.t 37)), 3, []⟩, ⟨(some 3), .none, (.mov (.t 39)), 4, []⟩]) .ret)) .skip)))) (.reg false [⟨(some 14), .none, (.mov (.t 5)), 0, []⟩, ⟨(some 15), .none, (.bin .add (.t 14) (.c (.int .i64 1))), 1, []⟩, ⟨(some 5), .none, (.mov (.t 15)), 2, []⟩])))))) (.seq (.reg false [⟨(some 2), .none, (.mov (.c (.int .i64 0))), 0, []⟩, ⟨(some 3), .none, (.mov (.c (.int .i64 0))), 1, []⟩]) .ret)))), [(.t 2), (.t 3)]⟩
theorem k119 : EE.fns 119 = some c119 := by kernel_rfl
end Go.Proofs.Ytokicdkdllndpaa.Ev

/- Numbers as bytes: the program's and the reference's. -/
namespace Go.Proofs.Ytokicdkdllndpaa.Ev
set_option linter.all false
open Go
set_option maxRecDepth 4000

theorem f58 {H : Hp} {a b c : Int} : Scal EE 58 [.int .i64 a, .int .i64 b, .int .i64 c] H (.bool (decide (a ≥ b) && decide (a ≤ c))) := by
  refine scal_ok rfl rfl k58 (by simp [c58]) rfl fun m hw => ?_
  simp only [go_nil, go_blk, go_skip, go_ret, go_exit, go_seq, go_block, go_reg, go_r0, go_r, go_d0, go_d, go_e0, go_e, box2, Option.isSome_some, Nat.le_refl, go_cond, go_o, go_g, aft_some, cnd_bool, grd_bool, grd_tup, brT_true, brT_false, brT_not, thr_exit, thr_c, thr_nil, stp, stepK, movK, mv1, ex, exv, exvs, upd_some, upd_none, ini, St.val, binK, binV, ofV, pickK, unK, unV, beqK, beq_true, beq_false, if_true, if_false, List.getElem?_cons_zero, List.getElem?_cons_succ, ↓reduceIte, Nat.reduceEqDiff, reduceCtorEq, loadK, adr, deref, Ad.fv, Ad.live, fadrK, List.length_cons, List.length_nil, List.drop_zero, List.drop_succ_cons, List.take_succ_cons, List.take_zero, Nat.reduceAdd, Nat.reduceLeDiff, Nat.zero_add, Nat.add_zero, aeqK, agEq, scEq, boxVK, newVK, exc, vc_agg, vc_int, vc_bool, vc_str, vc_ptr, vc_sl, vc_fn, boxOf, adInf, List.reverse_cons, List.reverse_nil, List.nil_append, List.cons_append, extK, Bool.and_true, Bool.true_and, Bool.not_true, Bool.not_false, resT, resVs, resV, true_and, and_true, storeK, spl_nil, spl_z, spl_1, spl_2, spl_3, spl_4, spl_5, spl_6, spl_7, spl_8, scal_int, scal_bool, scal_str, scal_nil, implies_true, Bool.and_self, Post_ret, Post_normal, PostS_ret, PostS_normal, retT_true, retT_false, flat_bool, flat_int, flat_str, List.take_length, decide_true, decide_false, Option.some.injEq, Value.bool.injEq, Value.int.injEq, Bool.false_and, Bool.and_false, not_false_eq_true, not_true_eq_false, toIntK, List.length_set, Nat.reduceMul, Bool.not_eq_true, Bool.not_eq_false, List.all_cons, List.all_nil, exps, fillL, buildK, strK, nilcK, fnK, callVT, List.size_toArray, List.append_nil, List.singleton_append, boxOK, newOK, scal_nil, List.isEmpty_nil, List.isEmpty_cons, mkVK, mkOK, mkCells, zeros_0, zeros_1, zeros_2, zeros_3, zeros_4, List.map_cons, List.map_nil, c58]
  refine brT.intro (fun h => ?_) (fun h => ?_) <;> simp only [go_nil, go_blk, go_skip, go_ret, go_exit, go_seq, go_block, go_reg, go_r0, go_r, go_d0, go_d, go_e0, go_e, box2, Option.isSome_some, Nat.le_refl, go_cond, go_o, go_g, aft_some, cnd_bool, grd_bool, grd_tup, brT_true, brT_false, brT_not, thr_exit, thr_c, thr_nil, stp, stepK, movK, mv1, ex, exv, exvs, upd_some, upd_none, ini, St.val, binK, binV, ofV, pickK, unK, unV, beqK, beq_true, beq_false, if_true, if_false, List.getElem?_cons_zero, List.getElem?_cons_succ, ↓reduceIte, Nat.reduceEqDiff, reduceCtorEq, loadK, adr, deref, Ad.fv, Ad.live, fadrK, List.length_cons, List.length_nil, List.drop_zero, List.drop_succ_cons, List.take_succ_cons, List.take_zero, Nat.reduceAdd, Nat.reduceLeDiff, Nat.zero_add, Nat.add_zero, aeqK, agEq, scEq, boxVK, newVK, exc, vc_agg, vc_int, vc_bool, vc_str, vc_ptr, vc_sl, vc_fn, boxOf, adInf, List.reverse_cons, List.reverse_nil, List.nil_append, List.cons_append, extK, Bool.and_true, Bool.true_and, Bool.not_true, Bool.not_false, resT, resVs, resV, true_and, and_true, storeK, spl_nil, spl_z, spl_1, spl_2, spl_3, spl_4, spl_5, spl_6, spl_7, spl_8, scal_int, scal_bool, scal_str, scal_nil, implies_true, Bool.and_self, Post_ret, Post_normal, PostS_ret, PostS_normal, retT_true, retT_false, flat_bool, flat_int, flat_str, List.take_length, decide_true, decide_false, Option.some.injEq, Value.bool.injEq, Value.int.injEq, Bool.false_and, Bool.and_false, not_false_eq_true, not_true_eq_false, toIntK, List.length_set, Nat.reduceMul, Bool.not_eq_true, Bool.not_eq_false, List.all_cons, List.all_nil, exps, fillL, buildK, strK, nilcK, fnK, callVT, List.size_toArray, List.append_nil, List.singleton_append, boxOK, newOK, scal_nil, List.isEmpty_nil, List.isEmpty_cons, mkVK, mkOK, mkCells, zeros_0, zeros_1, zeros_2, zeros_3, zeros_4, List.map_cons, List.map_nil, h]
theorem c58' {m : Md} {draw : Bool} {s : St} {d : Option Nat} {ts : List Tk} {Q : Ex → St → Prop} {a b c : Int} (hw : Wr m s.H) :
    callT EE m draw 58 (some [.int .i64 a, .int .i64 b, .int .i64 c]) s d ts Q = go EE m ts { s with ρ := upd s.ρ d (.val (.bool (decide (a ≥ b) && decide (a ≤ c)))) } Q := callT_at f58 rfl hw
theorem f101 {H : Hp} {a b c : Int} : Scal EE 101 [.int .i64 a, .int .i64 b, .int .i64 c] H (.bool (decide (a ≥ b) && decide (a ≤ c))) := by
  refine scal_ok rfl rfl k101 (by simp [c101]) rfl fun m hw => ?_
  simp only [go_nil, go_blk, go_skip, go_ret, go_exit, go_seq, go_block, go_reg, go_r0, go_r, go_d0, go_d, go_e0, go_e, box2, Option.isSome_some, Nat.le_refl, go_cond, go_o, go_g, aft_some, cnd_bool, grd_bool, grd_tup, brT_true, brT_false, brT_not, thr_exit, thr_c, thr_nil, stp, stepK, movK, mv1, ex, exv, exvs, upd_some, upd_none, ini, St.val, binK, binV, ofV, pickK, unK, unV, beqK, beq_true, beq_false, if_true, if_false, List.getElem?_cons_zero, List.getElem?_cons_succ, ↓reduceIte, Nat.reduceEqDiff, reduceCtorEq, loadK, adr, deref, Ad.fv, Ad.live, fadrK, List.length_cons, List.length_nil, List.drop_zero, List.drop_succ_cons, List.take_succ_cons, List.take_zero, Nat.reduceAdd, Nat.reduceLeDiff, Nat.zero_add, Nat.add_zero, aeqK, agEq, scEq, boxVK, newVK, exc, vc_agg, vc_int, vc_bool, vc_str, vc_ptr, vc_sl, vc_fn, boxOf, adInf, List.reverse_cons, List.reverse_nil, List.nil_append, List.cons_append, extK, Bool.and_true, Bool.true_and, Bool.not_true, Bool.not_false, resT, resVs, resV, true_and, and_true, storeK, spl_nil, spl_z, spl_1, spl_2, spl_3, spl_4, spl_5, spl_6, spl_7, spl_8, scal_int, scal_bool, scal_str, scal_nil, implies_true, Bool.and_self, Post_ret, Post_normal, PostS_ret, PostS_normal, retT_true, retT_false, flat_bool, flat_int, flat_str, List.take_length, decide_true, decide_false, Option.some.injEq, Value.bool.injEq, Value.int.injEq, Bool.false_and, Bool.and_false, not_false_eq_true, not_true_eq_false, toIntK, List.length_set, Nat.reduceMul, Bool.not_eq_true, Bool.not_eq_false, List.all_cons, List.all_nil, exps, fillL, buildK, strK, nilcK, fnK, callVT, List.size_toArray, List.append_nil, List.singleton_append, boxOK, newOK, scal_nil, List.isEmpty_nil, List.isEmpty_cons, mkVK, mkOK, mkCells, zeros_0, zeros_1, zeros_2, zeros_3, zeros_4, List.map_cons, List.map_nil, c101]
  refine brT.intro (fun h => ?_) (fun h => ?_) <;> simp only [go_nil, go_blk, go_skip, go_ret, go_exit, go_seq, go_block, go_reg, go_r0, go_r, go_d0, go_d, go_e0, go_e, box2, Option.isSome_some, Nat.le_refl, go_cond, go_o, go_g, aft_some, cnd_bool, grd_bool, grd_tup, brT_true, brT_false, brT_not, thr_exit, thr_c, thr_nil, stp, stepK, movK, mv1, ex, exv, exvs, upd_some, upd_none, ini, St.val, binK, binV, ofV, pickK, unK, unV, beqK, beq_true, beq_false, if_true, if_false, List.getElem?_cons_zero, List.getElem?_cons_succ, ↓reduceIte, Nat.reduceEqDiff, reduceCtorEq, loadK, adr, deref, Ad.fv, Ad.live, fadrK, List.length_cons, List.length_nil, List.drop_zero, List.drop_succ_cons, List.take_succ_cons, List.take_zero, Nat.reduceAdd, Nat.reduceLeDiff, Nat.zero_add, Nat.add_zero, aeqK, agEq, scEq, boxVK, newVK, exc, vc_agg, vc_int, vc_bool, vc_str, vc_ptr, vc_sl, vc_fn, boxOf, adInf, List.reverse_cons, List.reverse_nil, List.nil_append, List.cons_append, extK, Bool.and_true, Bool.true_and, Bool.not_true, Bool.not_false, resT, resVs, resV, true_and, and_true, storeK, spl_nil, spl_z, spl_1, spl_2, spl_3, spl_4, spl_5, spl_6, spl_7, spl_8, scal_int, scal_bool, scal_str, scal_nil, implies_true, Bool.and_self, Post_ret, Post_normal, PostS_ret, PostS_normal, retT_true, retT_false, flat_bool, flat_int, flat_str, List.take_length, decide_true, decide_false, Option.some.injEq, Value.bool.injEq, Value.int.injEq, Bool.false_and, Bool.and_false, not_false_eq_true, not_true_eq_false, toIntK, List.length_set, Nat.reduceMul, Bool.not_eq_true, Bool.not_eq_false, List.all_cons, List.all_nil, exps, fillL, buildK, strK, nilcK, fnK, callVT, List.size_toArray, List.append_nil, List.singleton_append, boxOK, newOK, scal_nil, List.isEmpty_nil, List.isEmpty_cons, mkVK, mkOK, mkCells, zeros_0, zeros_1, zeros_2, zeros_3, zeros_4, List.map_cons, List.map_nil, h]
theorem c101' {m : Md} {draw : Bool} {s : St} {d : Option Nat} {ts : List Tk} {Q : Ex → St → Prop} {a b c : Int} (hw : Wr m s.H) :
    callT EE m draw 101 (some [.int .i64 a, .int .i64 b, .int .i64 c]) s d ts Q = go EE m ts { s with ρ := upd s.ρ d (.val (.bool (decide (a ≥ b) && decide (a ≤ c)))) } Q := callT_at f101 rfl hw

theorem varB_in {n : Int} (h : (decide (n ≥ 0) && decide (n ≤ 562949953421311)) = true) : 0 ≤ n ∧ n ≤ 562949953421311 := by simpa using h
theorem varB_out {n : Int} (h : (decide (n ≥ 0) && decide (n ≤ 562949953421311)) = false) : varB n = ⟨#[]⟩ := by
  unfold varB
  rw [if_neg (fun h2 => by simp at h; omega)]
  rfl
theorem ne128 : ¬ ((128 : Int) = 0) := by decide

theorem f64 {H : Hp} {n : Int} : Scal EE 64 [.int .i64 n] H (.string (varB n)) := by
  refine scal_ok rfl rfl k64 (by simp [c64]) rfl fun m hw => ?_
  simp only [go_nil, go_blk, go_skip, go_ret, go_exit, go_seq, go_block, go_reg, go_r0, go_r, go_d0, go_d, go_e0, go_e, box2, Option.isSome_some, Nat.le_refl, go_cond, go_o, go_g, aft_some, cnd_bool, grd_bool, grd_tup, brT_true, brT_false, brT_not, thr_exit, thr_c, thr_nil, stp, stepK, movK, mv1, ex, exv, exvs, upd_some, upd_none, ini, St.val, binK, binV, ofV, pickK, unK, unV, beqK, beq_true, beq_false, if_true, if_false, List.getElem?_cons_zero, List.getElem?_cons_succ, ↓reduceIte, Nat.reduceEqDiff, reduceCtorEq, loadK, adr, deref, Ad.fv, Ad.live, fadrK, List.length_cons, List.length_nil, List.drop_zero, List.drop_succ_cons, List.take_succ_cons, List.take_zero, Nat.reduceAdd, Nat.reduceLeDiff, Nat.zero_add, Nat.add_zero, aeqK, agEq, scEq, boxVK, newVK, exc, vc_agg, vc_int, vc_bool, vc_str, vc_ptr, vc_sl, vc_fn, boxOf, adInf, List.reverse_cons, List.reverse_nil, List.nil_append, List.cons_append, extK, Bool.and_true, Bool.true_and, Bool.not_true, Bool.not_false, resT, resVs, resV, true_and, and_true, storeK, spl_nil, spl_z, spl_1, spl_2, spl_3, spl_4, spl_5, spl_6, spl_7, spl_8, scal_int, scal_bool, scal_str, scal_nil, implies_true, Bool.and_self, Post_ret, Post_normal, PostS_ret, PostS_normal, retT_true, retT_false, flat_bool, flat_int, flat_str, List.take_length, decide_true, decide_false, Option.some.injEq, Value.bool.injEq, Value.int.injEq, Bool.false_and, Bool.and_false, not_false_eq_true, not_true_eq_false, toIntK, List.length_set, Nat.reduceMul, Bool.not_eq_true, Bool.not_eq_false, List.all_cons, List.all_nil, exps, fillL, buildK, strK, nilcK, fnK, callVT, List.size_toArray, List.append_nil, List.singleton_append, boxOK, newOK, scal_nil, List.isEmpty_nil, List.isEmpty_cons, mkVK, mkOK, mkCells, zeros_0, zeros_1, zeros_2, zeros_3, zeros_4, List.map_cons, List.map_nil, c64, c58', hw, fillL]
  refine brT.intro (fun h => ?_) (fun h => ?_) <;> simp only [go_nil, go_blk, go_skip, go_ret, go_exit, go_seq, go_block, go_reg, go_r0, go_r, go_d0, go_d, go_e0, go_e, box2, Option.isSome_some, Nat.le_refl, go_cond, go_o, go_g, aft_some, cnd_bool, grd_bool, grd_tup, brT_true, brT_false, brT_not, thr_exit, thr_c, thr_nil, stp, stepK, movK, mv1, ex, exv, exvs, upd_some, upd_none, ini, St.val, binK, binV, ofV, pickK, unK, unV, beqK, beq_true, beq_false, if_true, if_false, List.getElem?_cons_zero, List.getElem?_cons_succ, ↓reduceIte, Nat.reduceEqDiff, reduceCtorEq, loadK, adr, deref, Ad.fv, Ad.live, fadrK, List.length_cons, List.length_nil, List.drop_zero, List.drop_succ_cons, List.take_succ_cons, List.take_zero, Nat.reduceAdd, Nat.reduceLeDiff, Nat.zero_add, Nat.add_zero, aeqK, agEq, scEq, boxVK, newVK, exc, vc_agg, vc_int, vc_bool, vc_str, vc_ptr, vc_sl, vc_fn, boxOf, adInf, List.reverse_cons, List.reverse_nil, List.nil_append, List.cons_append, extK, Bool.and_true, Bool.true_and, Bool.not_true, Bool.not_false, resT, resVs, resV, true_and, and_true, storeK, spl_nil, spl_z, spl_1, spl_2, spl_3, spl_4, spl_5, spl_6, spl_7, spl_8, scal_int, scal_bool, scal_str, scal_nil, implies_true, Bool.and_self, Post_ret, Post_normal, PostS_ret, PostS_normal, retT_true, retT_false, flat_bool, flat_int, flat_str, List.take_length, decide_true, decide_false, Option.some.injEq, Value.bool.injEq, Value.int.injEq, Bool.false_and, Bool.and_false, not_false_eq_true, not_true_eq_false, toIntK, List.length_set, Nat.reduceMul, Bool.not_eq_true, Bool.not_eq_false, List.all_cons, List.all_nil, exps, fillL, buildK, strK, nilcK, fnK, callVT, List.size_toArray, List.append_nil, List.singleton_append, boxOK, newOK, scal_nil, List.isEmpty_nil, List.isEmpty_cons, mkVK, mkOK, mkCells, zeros_0, zeros_1, zeros_2, zeros_3, zeros_4, List.map_cons, List.map_nil, fillL]
  rotate_left
  · rw [varB_out h]
  obtain ⟨h0, h1⟩ := varB_in h
  obtain ⟨k, rfl⟩ : ∃ k : Nat, n = k := ⟨n.toNat, by omega⟩
  have hV : varB (k : Int) = strOf (varL k) := by unfold varB; rw [if_pos ⟨h0, h1⟩]; rfl
  have h7 : (128 : Nat) ^ (6 + 1) = 562949953421312 := by decide
  have hlen := varL_len 6 k (by omega)
  rw [hV]
  refine go_loop (fun j s => H <+: s.H ∧ s.ρ 0 = .val (.int .i64 j) ∧ j ≤ k ∧ ∃ wv l, s.ρ 3 = .val wv ∧ SlN s.H wv l ∧ OwnS H.length wv ∧ l ++ varL j = varL k)
    (fun s => H <+: s.H ∧ ∃ (j : Nat) (wv : Value) (l : List Nat), s.ρ 0 = .val (.int .i64 j) ∧ j < 128 ∧ s.ρ 3 = .val wv ∧ SlN s.H wv l ∧ OwnS H.length wv ∧ l ++ [j] = varL k) k ?_ ?_ ?_
  · exact ⟨List.prefix_append _ _, by simp [upd, ini], Nat.le_refl _, _, [], by simp [upd], own_newN, .inr ⟨_, _, _, _, rfl, Nat.le_refl _⟩, rfl⟩
  · rintro j s ⟨hH, h0', hj, wv, l, h3, hs, ho, hl⟩
    simp only [go_nil, go_blk, go_skip, go_ret, go_exit, go_seq, go_block, go_reg, go_r0, go_r, go_d0, go_d, go_e0, go_e, box2, Option.isSome_some, Nat.le_refl, go_cond, go_o, go_g, aft_some, cnd_bool, grd_bool, grd_tup, brT_true, brT_false, brT_not, thr_exit, thr_c, thr_nil, stp, stepK, movK, mv1, ex, exv, exvs, upd_some, upd_none, ini, St.val, binK, binV, ofV, pickK, unK, unV, beqK, beq_true, beq_false, if_true, if_false, List.getElem?_cons_zero, List.getElem?_cons_succ, ↓reduceIte, Nat.reduceEqDiff, reduceCtorEq, loadK, adr, deref, Ad.fv, Ad.live, fadrK, List.length_cons, List.length_nil, List.drop_zero, List.drop_succ_cons, List.take_succ_cons, List.take_zero, Nat.reduceAdd, Nat.reduceLeDiff, Nat.zero_add, Nat.add_zero, aeqK, agEq, scEq, boxVK, newVK, exc, vc_agg, vc_int, vc_bool, vc_str, vc_ptr, vc_sl, vc_fn, boxOf, adInf, List.reverse_cons, List.reverse_nil, List.nil_append, List.cons_append, extK, Bool.and_true, Bool.true_and, Bool.not_true, Bool.not_false, resT, resVs, resV, true_and, and_true, storeK, spl_nil, spl_z, spl_1, spl_2, spl_3, spl_4, spl_5, spl_6, spl_7, spl_8, scal_int, scal_bool, scal_str, scal_nil, implies_true, Bool.and_self, Post_ret, Post_normal, PostS_ret, PostS_normal, retT_true, retT_false, flat_bool, flat_int, flat_str, List.take_length, decide_true, decide_false, Option.some.injEq, Value.bool.injEq, Value.int.injEq, Bool.false_and, Bool.and_false, not_false_eq_true, not_true_eq_false, toIntK, List.length_set, Nat.reduceMul, Bool.not_eq_true, Bool.not_eq_false, List.all_cons, List.all_nil, exps, fillL, buildK, strK, nilcK, fnK, callVT, List.size_toArray, List.append_nil, List.singleton_append, boxOK, newOK, scal_nil, List.isEmpty_nil, List.isEmpty_cons, mkVK, mkOK, mkCells, zeros_0, zeros_1, zeros_2, zeros_3, zeros_4, List.map_cons, List.map_nil, h0', h3]
    refine brT.intro (fun q1 => ?_) (fun q1 => ?_) <;> simp only [go_nil, go_blk, go_skip, go_ret, go_exit, go_seq, go_block, go_reg, go_r0, go_r, go_d0, go_d, go_e0, go_e, box2, Option.isSome_some, Nat.le_refl, go_cond, go_o, go_g, aft_some, cnd_bool, grd_bool, grd_tup, brT_true, brT_false, brT_not, thr_exit, thr_c, thr_nil, stp, stepK, movK, mv1, ex, exv, exvs, upd_some, upd_none, ini, St.val, binK, binV, ofV, pickK, unK, unV, beqK, beq_true, beq_false, if_true, if_false, List.getElem?_cons_zero, List.getElem?_cons_succ, ↓reduceIte, Nat.reduceEqDiff, reduceCtorEq, loadK, adr, deref, Ad.fv, Ad.live, fadrK, List.length_cons, List.length_nil, List.drop_zero, List.drop_succ_cons, List.take_succ_cons, List.take_zero, Nat.reduceAdd, Nat.reduceLeDiff, Nat.zero_add, Nat.add_zero, aeqK, agEq, scEq, boxVK, newVK, exc, vc_agg, vc_int, vc_bool, vc_str, vc_ptr, vc_sl, vc_fn, boxOf, adInf, List.reverse_cons, List.reverse_nil, List.nil_append, List.cons_append, extK, Bool.and_true, Bool.true_and, Bool.not_true, Bool.not_false, resT, resVs, resV, true_and, and_true, storeK, spl_nil, spl_z, spl_1, spl_2, spl_3, spl_4, spl_5, spl_6, spl_7, spl_8, scal_int, scal_bool, scal_str, scal_nil, implies_true, Bool.and_self, Post_ret, Post_normal, PostS_ret, PostS_normal, retT_true, retT_false, flat_bool, flat_int, flat_str, List.take_length, decide_true, decide_false, Option.some.injEq, Value.bool.injEq, Value.int.injEq, Bool.false_and, Bool.and_false, not_false_eq_true, not_true_eq_false, toIntK, List.length_set, Nat.reduceMul, Bool.not_eq_true, Bool.not_eq_false, List.all_cons, List.all_nil, exps, fillL, buildK, strK, nilcK, fnK, callVT, List.size_toArray, List.append_nil, List.singleton_append, boxOK, newOK, scal_nil, List.isEmpty_nil, List.isEmpty_cons, mkVK, mkOK, mkCells, zeros_0, zeros_1, zeros_2, zeros_3, zeros_4, List.map_cons, List.map_nil, h0', h3]
    · have q2 : ¬ j < 128 := by have := of_decide_eq_true q1; omega
      have hll := congrArg List.length hl
      have hp := varL_pos j
      rw [List.length_append] at hll
      obtain ⟨v2, H2, e1, e2, e3, e4, e5, e6, e7⟩ := hs.oneN (m := m) (j % 128 + 128) ho hH.length_le hw (by omega)
      have t1 : Int.tmod (j : Int) 128 = ((j % 128 : Nat) : Int) := rfl
      have t2 : Int.tdiv (j : Int) 128 = ((j / 128 : Nat) : Int) := rfl
      have t3 : IntKind.u8.wrap (128 + ((j % 128 : Nat) : Int)) = ((j % 128 + 128 : Nat) : Int) := by rw [wrap8 _ (by omega) (by omega)]; omega
      simp only [go_nil, go_blk, go_skip, go_ret, go_exit, go_seq, go_block, go_reg, go_r0, go_r, go_d0, go_d, go_e0, go_e, box2, Option.isSome_some, Nat.le_refl, go_cond, go_o, go_g, aft_some, cnd_bool, grd_bool, grd_tup, brT_true, brT_false, brT_not, thr_exit, thr_c, thr_nil, stp, stepK, movK, mv1, ex, exv, exvs, upd_some, upd_none, ini, St.val, binK, binV, ofV, pickK, unK, unV, beqK, beq_true, beq_false, if_true, if_false, List.getElem?_cons_zero, List.getElem?_cons_succ, ↓reduceIte, Nat.reduceEqDiff, reduceCtorEq, loadK, adr, deref, Ad.fv, Ad.live, fadrK, List.length_cons, List.length_nil, List.drop_zero, List.drop_succ_cons, List.take_succ_cons, List.take_zero, Nat.reduceAdd, Nat.reduceLeDiff, Nat.zero_add, Nat.add_zero, aeqK, agEq, scEq, boxVK, newVK, exc, vc_agg, vc_int, vc_bool, vc_str, vc_ptr, vc_sl, vc_fn, boxOf, adInf, List.reverse_cons, List.reverse_nil, List.nil_append, List.cons_append, extK, Bool.and_true, Bool.true_and, Bool.not_true, Bool.not_false, resT, resVs, resV, true_and, and_true, storeK, spl_nil, spl_z, spl_1, spl_2, spl_3, spl_4, spl_5, spl_6, spl_7, spl_8, scal_int, scal_bool, scal_str, scal_nil, implies_true, Bool.and_self, Post_ret, Post_normal, PostS_ret, PostS_normal, retT_true, retT_false, flat_bool, flat_int, flat_str, List.take_length, decide_true, decide_false, Option.some.injEq, Value.bool.injEq, Value.int.injEq, Bool.false_and, Bool.and_false, not_false_eq_true, not_true_eq_false, toIntK, List.length_set, Nat.reduceMul, Bool.not_eq_true, Bool.not_eq_false, List.all_cons, List.all_nil, exps, fillL, buildK, strK, nilcK, fnK, callVT, List.size_toArray, List.append_nil, List.singleton_append, boxOK, newOK, scal_nil, List.isEmpty_nil, List.isEmpty_cons, mkVK, mkOK, mkCells, zeros_0, zeros_1, zeros_2, zeros_3, zeros_4, List.map_cons, List.map_nil, h0', h3, ne128, t1, t2, wrap64 (128 + ((j % 128 : Nat) : Int)) (by omega) (by omega), t3]
      rw [e1]
      rotate_left
      · rfl
      · rfl
      · rfl
      simp only [go_nil, go_blk, go_skip, go_ret, go_exit, go_seq, go_block, go_reg, go_r0, go_r, go_d0, go_d, go_e0, go_e, box2, Option.isSome_some, Nat.le_refl, go_cond, go_o, go_g, aft_some, cnd_bool, grd_bool, grd_tup, brT_true, brT_false, brT_not, thr_exit, thr_c, thr_nil, stp, stepK, movK, mv1, ex, exv, exvs, upd_some, upd_none, ini, St.val, binK, binV, ofV, pickK, unK, unV, beqK, beq_true, beq_false, if_true, if_false, List.getElem?_cons_zero, List.getElem?_cons_succ, ↓reduceIte, Nat.reduceEqDiff, reduceCtorEq, loadK, adr, deref, Ad.fv, Ad.live, fadrK, List.length_cons, List.length_nil, List.drop_zero, List.drop_succ_cons, List.take_succ_cons, List.take_zero, Nat.reduceAdd, Nat.reduceLeDiff, Nat.zero_add, Nat.add_zero, aeqK, agEq, scEq, boxVK, newVK, exc, vc_agg, vc_int, vc_bool, vc_str, vc_ptr, vc_sl, vc_fn, boxOf, adInf, List.reverse_cons, List.reverse_nil, List.nil_append, List.cons_append, extK, Bool.and_true, Bool.true_and, Bool.not_true, Bool.not_false, resT, resVs, resV, true_and, and_true, storeK, spl_nil, spl_z, spl_1, spl_2, spl_3, spl_4, spl_5, spl_6, spl_7, spl_8, scal_int, scal_bool, scal_str, scal_nil, implies_true, Bool.and_self, Post_ret, Post_normal, PostS_ret, PostS_normal, retT_true, retT_false, flat_bool, flat_int, flat_str, List.take_length, decide_true, decide_false, Option.some.injEq, Value.bool.injEq, Value.int.injEq, Bool.false_and, Bool.and_false, not_false_eq_true, not_true_eq_false, toIntK, List.length_set, Nat.reduceMul, Bool.not_eq_true, Bool.not_eq_false, List.all_cons, List.all_nil, exps, fillL, buildK, strK, nilcK, fnK, callVT, List.size_toArray, List.append_nil, List.singleton_append, boxOK, newOK, scal_nil, List.isEmpty_nil, List.isEmpty_cons, mkVK, mkOK, mkCells, zeros_0, zeros_1, zeros_2, zeros_3, zeros_4, List.map_cons, List.map_nil, h0', h3, ne128, t1, t2, wrap64 (((j / 128 : Nat) : Int)) (by omega) (by omega)]
      refine ⟨j / 128, by omega, e7 H (Nat.le_refl _) hH, rfl, by omega, v2, _, rfl, e2, e3, ?_⟩
      rw [List.append_assoc, List.singleton_append, ← varL_ge q2]
      exact hl
    · have q2 : j < 128 := by have := of_decide_eq_false q1; omega
      rw [varL_lt q2] at hl
      exact ⟨hH, j, wv, l, rfl, q2, rfl, hs, ho, hl⟩
  · rintro s ⟨hH, j, wv, l, h0', hj, h3, hs, ho, hl⟩
    have hll := congrArg List.length hl
    rw [List.length_append] at hll
    obtain ⟨v2, H2, e1, e2, e3, e4, e5, e6, e7⟩ := hs.oneN (m := m) j ho hH.length_le hw (by simp at hll; omega)
    have hb := e2.b2s (fun x hx => by
      rw [hl] at hx
      obtain ⟨i, hi⟩ := List.getElem?_of_mem hx
      exact (varL_bits k i x hi).1)
    simp only [go_nil, go_blk, go_skip, go_ret, go_exit, go_seq, go_block, go_reg, go_r0, go_r, go_d0, go_d, go_e0, go_e, box2, Option.isSome_some, Nat.le_refl, go_cond, go_o, go_g, aft_some, cnd_bool, grd_bool, grd_tup, brT_true, brT_false, brT_not, thr_exit, thr_c, thr_nil, stp, stepK, movK, mv1, ex, exv, exvs, upd_some, upd_none, ini, St.val, binK, binV, ofV, pickK, unK, unV, beqK, beq_true, beq_false, if_true, if_false, List.getElem?_cons_zero, List.getElem?_cons_succ, ↓reduceIte, Nat.reduceEqDiff, reduceCtorEq, loadK, adr, deref, Ad.fv, Ad.live, fadrK, List.length_cons, List.length_nil, List.drop_zero, List.drop_succ_cons, List.take_succ_cons, List.take_zero, Nat.reduceAdd, Nat.reduceLeDiff, Nat.zero_add, Nat.add_zero, aeqK, agEq, scEq, boxVK, newVK, exc, vc_agg, vc_int, vc_bool, vc_str, vc_ptr, vc_sl, vc_fn, boxOf, adInf, List.reverse_cons, List.reverse_nil, List.nil_append, List.cons_append, extK, Bool.and_true, Bool.true_and, Bool.not_true, Bool.not_false, resT, resVs, resV, true_and, and_true, storeK, spl_nil, spl_z, spl_1, spl_2, spl_3, spl_4, spl_5, spl_6, spl_7, spl_8, scal_int, scal_bool, scal_str, scal_nil, implies_true, Bool.and_self, Post_ret, Post_normal, PostS_ret, PostS_normal, retT_true, retT_false, flat_bool, flat_int, flat_str, List.take_length, decide_true, decide_false, Option.some.injEq, Value.bool.injEq, Value.int.injEq, Bool.false_and, Bool.and_false, not_false_eq_true, not_true_eq_false, toIntK, List.length_set, Nat.reduceMul, Bool.not_eq_true, Bool.not_eq_false, List.all_cons, List.all_nil, exps, fillL, buildK, strK, nilcK, fnK, callVT, List.size_toArray, List.append_nil, List.singleton_append, boxOK, newOK, scal_nil, List.isEmpty_nil, List.isEmpty_cons, mkVK, mkOK, mkCells, zeros_0, zeros_1, zeros_2, zeros_3, zeros_4, List.map_cons, List.map_nil, h0', h3, wrap8 (j : Int) (by omega) (by omega)]
    rw [e1]
    rotate_left
    · rfl
    · rfl
    · rfl
    simp only [go_nil, go_blk, go_skip, go_ret, go_exit, go_seq, go_block, go_reg, go_r0, go_r, go_d0, go_d, go_e0, go_e, box2, Option.isSome_some, Nat.le_refl, go_cond, go_o, go_g, aft_some, cnd_bool, grd_bool, grd_tup, brT_true, brT_false, brT_not, thr_exit, thr_c, thr_nil, stp, stepK, movK, mv1, ex, exv, exvs, upd_some, upd_none, ini, St.val, binK, binV, ofV, pickK, unK, unV, beqK, beq_true, beq_false, if_true, if_false, List.getElem?_cons_zero, List.getElem?_cons_succ, ↓reduceIte, Nat.reduceEqDiff, reduceCtorEq, loadK, adr, deref, Ad.fv, Ad.live, fadrK, List.length_cons, List.length_nil, List.drop_zero, List.drop_succ_cons, List.take_succ_cons, List.take_zero, Nat.reduceAdd, Nat.reduceLeDiff, Nat.zero_add, Nat.add_zero, aeqK, agEq, scEq, boxVK, newVK, exc, vc_agg, vc_int, vc_bool, vc_str, vc_ptr, vc_sl, vc_fn, boxOf, adInf, List.reverse_cons, List.reverse_nil, List.nil_append, List.cons_append, extK, Bool.and_true, Bool.true_and, Bool.not_true, Bool.not_false, resT, resVs, resV, true_and, and_true, storeK, spl_nil, spl_z, spl_1, spl_2, spl_3, spl_4, spl_5, spl_6, spl_7, spl_8, scal_int, scal_bool, scal_str, scal_nil, implies_true, Bool.and_self, Post_ret, Post_normal, PostS_ret, PostS_normal, retT_true, retT_false, flat_bool, flat_int, flat_str, List.take_length, decide_true, decide_false, Option.some.injEq, Value.bool.injEq, Value.int.injEq, Bool.false_and, Bool.and_false, not_false_eq_true, not_true_eq_false, toIntK, List.length_set, Nat.reduceMul, Bool.not_eq_true, Bool.not_eq_false, List.all_cons, List.all_nil, exps, fillL, buildK, strK, nilcK, fnK, callVT, List.size_toArray, List.append_nil, List.singleton_append, boxOK, newOK, scal_nil, List.isEmpty_nil, List.isEmpty_cons, mkVK, mkOK, mkCells, zeros_0, zeros_1, zeros_2, zeros_3, zeros_4, List.map_cons, List.map_nil]
    rw [hb]
    rotate_left
    · rfl
    · rfl
    simp only [go_nil, go_blk, go_skip, go_ret, go_exit, go_seq, go_block, go_reg, go_r0, go_r, go_d0, go_d, go_e0, go_e, box2, Option.isSome_some, Nat.le_refl, go_cond, go_o, go_g, aft_some, cnd_bool, grd_bool, grd_tup, brT_true, brT_false, brT_not, thr_exit, thr_c, thr_nil, stp, stepK, movK, mv1, ex, exv, exvs, upd_some, upd_none, ini, St.val, binK, binV, ofV, pickK, unK, unV, beqK, beq_true, beq_false, if_true, if_false, List.getElem?_cons_zero, List.getElem?_cons_succ, ↓reduceIte, Nat.reduceEqDiff, reduceCtorEq, loadK, adr, deref, Ad.fv, Ad.live, fadrK, List.length_cons, List.length_nil, List.drop_zero, List.drop_succ_cons, List.take_succ_cons, List.take_zero, Nat.reduceAdd, Nat.reduceLeDiff, Nat.zero_add, Nat.add_zero, aeqK, agEq, scEq, boxVK, newVK, exc, vc_agg, vc_int, vc_bool, vc_str, vc_ptr, vc_sl, vc_fn, boxOf, adInf, List.reverse_cons, List.reverse_nil, List.nil_append, List.cons_append, extK, Bool.and_true, Bool.true_and, Bool.not_true, Bool.not_false, resT, resVs, resV, true_and, and_true, storeK, spl_nil, spl_z, spl_1, spl_2, spl_3, spl_4, spl_5, spl_6, spl_7, spl_8, scal_int, scal_bool, scal_str, scal_nil, implies_true, Bool.and_self, Post_ret, Post_normal, PostS_ret, PostS_normal, retT_true, retT_false, flat_bool, flat_int, flat_str, List.take_length, decide_true, decide_false, Option.some.injEq, Value.bool.injEq, Value.int.injEq, Bool.false_and, Bool.and_false, not_false_eq_true, not_true_eq_false, toIntK, List.length_set, Nat.reduceMul, Bool.not_eq_true, Bool.not_eq_false, List.all_cons, List.all_nil, exps, fillL, buildK, strK, nilcK, fnK, callVT, List.size_toArray, List.append_nil, List.singleton_append, boxOK, newOK, scal_nil, List.isEmpty_nil, List.isEmpty_cons, mkVK, mkOK, mkCells, zeros_0, zeros_1, zeros_2, zeros_3, zeros_4, List.map_cons, List.map_nil, hl]
    exact pre_take (e7 H (Nat.le_refl _) hH)
theorem f65 {H : Hp} {n : Int} : Scal EE 65 [.int .i64 n] H (.string (varB n)) := by
  refine scal_ok rfl rfl k65 (by simp [c65]) rfl fun m hw => ?_
  simp only [go_nil, go_blk, go_skip, go_ret, go_exit, go_seq, go_block, go_reg, go_r0, go_r, go_d0, go_d, go_e0, go_e, box2, Option.isSome_some, Nat.le_refl, go_cond, go_o, go_g, aft_some, cnd_bool, grd_bool, grd_tup, brT_true, brT_false, brT_not, thr_exit, thr_c, thr_nil, stp, stepK, movK, mv1, ex, exv, exvs, upd_some, upd_none, ini, St.val, binK, binV, ofV, pickK, unK, unV, beqK, beq_true, beq_false, if_true, if_false, List.getElem?_cons_zero, List.getElem?_cons_succ, ↓reduceIte, Nat.reduceEqDiff, reduceCtorEq, loadK, adr, deref, Ad.fv, Ad.live, fadrK, List.length_cons, List.length_nil, List.drop_zero, List.drop_succ_cons, List.take_succ_cons, List.take_zero, Nat.reduceAdd, Nat.reduceLeDiff, Nat.zero_add, Nat.add_zero, aeqK, agEq, scEq, boxVK, newVK, exc, vc_agg, vc_int, vc_bool, vc_str, vc_ptr, vc_sl, vc_fn, boxOf, adInf, List.reverse_cons, List.reverse_nil, List.nil_append, List.cons_append, extK, Bool.and_true, Bool.true_and, Bool.not_true, Bool.not_false, resT, resVs, resV, true_and, and_true, storeK, spl_nil, spl_z, spl_1, spl_2, spl_3, spl_4, spl_5, spl_6, spl_7, spl_8, scal_int, scal_bool, scal_str, scal_nil, implies_true, Bool.and_self, Post_ret, Post_normal, PostS_ret, PostS_normal, retT_true, retT_false, flat_bool, flat_int, flat_str, List.take_length, decide_true, decide_false, Option.some.injEq, Value.bool.injEq, Value.int.injEq, Bool.false_and, Bool.and_false, not_false_eq_true, not_true_eq_false, toIntK, List.length_set, Nat.reduceMul, Bool.not_eq_true, Bool.not_eq_false, List.all_cons, List.all_nil, exps, fillL, buildK, strK, nilcK, fnK, callVT, List.size_toArray, List.append_nil, List.singleton_append, boxOK, newOK, scal_nil, List.isEmpty_nil, List.isEmpty_cons, mkVK, mkOK, mkCells, zeros_0, zeros_1, zeros_2, zeros_3, zeros_4, List.map_cons, List.map_nil, c65, c101', hw, fillL]
  refine brT.intro (fun h => ?_) (fun h => ?_) <;> simp only [go_nil, go_blk, go_skip, go_ret, go_exit, go_seq, go_block, go_reg, go_r0, go_r, go_d0, go_d, go_e0, go_e, box2, Option.isSome_some, Nat.le_refl, go_cond, go_o, go_g, aft_some, cnd_bool, grd_bool, grd_tup, brT_true, brT_false, brT_not, thr_exit, thr_c, thr_nil, stp, stepK, movK, mv1, ex, exv, exvs, upd_some, upd_none, ini, St.val, binK, binV, ofV, pickK, unK, unV, beqK, beq_true, beq_false, if_true, if_false, List.getElem?_cons_zero, List.getElem?_cons_succ, ↓reduceIte, Nat.reduceEqDiff, reduceCtorEq, loadK, adr, deref, Ad.fv, Ad.live, fadrK, List.length_cons, List.length_nil, List.drop_zero, List.drop_succ_cons, List.take_succ_cons, List.take_zero, Nat.reduceAdd, Nat.reduceLeDiff, Nat.zero_add, Nat.add_zero, aeqK, agEq, scEq, boxVK, newVK, exc, vc_agg, vc_int, vc_bool, vc_str, vc_ptr, vc_sl, vc_fn, boxOf, adInf, List.reverse_cons, List.reverse_nil, List.nil_append, List.cons_append, extK, Bool.and_true, Bool.true_and, Bool.not_true, Bool.not_false, resT, resVs, resV, true_and, and_true, storeK, spl_nil, spl_z, spl_1, spl_2, spl_3, spl_4, spl_5, spl_6, spl_7, spl_8, scal_int, scal_bool, scal_str, scal_nil, implies_true, Bool.and_self, Post_ret, Post_normal, PostS_ret, PostS_normal, retT_true, retT_false, flat_bool, flat_int, flat_str, List.take_length, decide_true, decide_false, Option.some.injEq, Value.bool.injEq, Value.int.injEq, Bool.false_and, Bool.and_false, not_false_eq_true, not_true_eq_false, toIntK, List.length_set, Nat.reduceMul, Bool.not_eq_true, Bool.not_eq_false, List.all_cons, List.all_nil, exps, fillL, buildK, strK, nilcK, fnK, callVT, List.size_toArray, List.append_nil, List.singleton_append, boxOK, newOK, scal_nil, List.isEmpty_nil, List.isEmpty_cons, mkVK, mkOK, mkCells, zeros_0, zeros_1, zeros_2, zeros_3, zeros_4, List.map_cons, List.map_nil, fillL]
  rotate_left
  · rw [varB_out h]
  obtain ⟨h0, h1⟩ := varB_in h
  obtain ⟨k, rfl⟩ : ∃ k : Nat, n = k := ⟨n.toNat, by omega⟩
  have hV : varB (k : Int) = strOf (varL k) := by unfold varB; rw [if_pos ⟨h0, h1⟩]; rfl
  have h7 : (128 : Nat) ^ (6 + 1) = 562949953421312 := by decide
  have hlen := varL_len 6 k (by omega)
  rw [hV]
  refine go_loop (fun j s => H <+: s.H ∧ s.ρ 0 = .val (.int .i64 j) ∧ j ≤ k ∧ ∃ wv l, s.ρ 3 = .val wv ∧ SlN s.H wv l ∧ OwnS H.length wv ∧ l ++ varL j = varL k)
    (fun s => H <+: s.H ∧ ∃ (j : Nat) (wv : Value) (l : List Nat), s.ρ 0 = .val (.int .i64 j) ∧ j < 128 ∧ s.ρ 3 = .val wv ∧ SlN s.H wv l ∧ OwnS H.length wv ∧ l ++ [j] = varL k) k ?_ ?_ ?_
  · exact ⟨List.prefix_append _ _, by simp [upd, ini], Nat.le_refl _, _, [], by simp [upd], own_newN, .inr ⟨_, _, _, _, rfl, Nat.le_refl _⟩, rfl⟩
  · rintro j s ⟨hH, h0', hj, wv, l, h3, hs, ho, hl⟩
    simp only [go_nil, go_blk, go_skip, go_ret, go_exit, go_seq, go_block, go_reg, go_r0, go_r, go_d0, go_d, go_e0, go_e, box2, Option.isSome_some, Nat.le_refl, go_cond, go_o, go_g, aft_some, cnd_bool, grd_bool, grd_tup, brT_true, brT_false, brT_not, thr_exit, thr_c, thr_nil, stp, stepK, movK, mv1, ex, exv, exvs, upd_some, upd_none, ini, St.val, binK, binV, ofV, pickK, unK, unV, beqK, beq_true, beq_false, if_true, if_false, List.getElem?_cons_zero, List.getElem?_cons_succ, ↓reduceIte, Nat.reduceEqDiff, reduceCtorEq, loadK, adr, deref, Ad.fv, Ad.live, fadrK, List.length_cons, List.length_nil, List.drop_zero, List.drop_succ_cons, List.take_succ_cons, List.take_zero, Nat.reduceAdd, Nat.reduceLeDiff, Nat.zero_add, Nat.add_zero, aeqK, agEq, scEq, boxVK, newVK, exc, vc_agg, vc_int, vc_bool, vc_str, vc_ptr, vc_sl, vc_fn, boxOf, adInf, List.reverse_cons, List.reverse_nil, List.nil_append, List.cons_append, extK, Bool.and_true, Bool.true_and, Bool.not_true, Bool.not_false, resT, resVs, resV, true_and, and_true, storeK, spl_nil, spl_z, spl_1, spl_2, spl_3, spl_4, spl_5, spl_6, spl_7, spl_8, scal_int, scal_bool, scal_str, scal_nil, implies_true, Bool.and_self, Post_ret, Post_normal, PostS_ret, PostS_normal, retT_true, retT_false, flat_bool, flat_int, flat_str, List.take_length, decide_true, decide_false, Option.some.injEq, Value.bool.injEq, Value.int.injEq, Bool.false_and, Bool.and_false, not_false_eq_true, not_true_eq_false, toIntK, List.length_set, Nat.reduceMul, Bool.not_eq_true, Bool.not_eq_false, List.all_cons, List.all_nil, exps, fillL, buildK, strK, nilcK, fnK, callVT, List.size_toArray, List.append_nil, List.singleton_append, boxOK, newOK, scal_nil, List.isEmpty_nil, List.isEmpty_cons, mkVK, mkOK, mkCells, zeros_0, zeros_1, zeros_2, zeros_3, zeros_4, List.map_cons, List.map_nil, h0', h3]
    refine brT.intro (fun q1 => ?_) (fun q1 => ?_) <;> simp only [go_nil, go_blk, go_skip, go_ret, go_exit, go_seq, go_block, go_reg, go_r0, go_r, go_d0, go_d, go_e0, go_e, box2, Option.isSome_some, Nat.le_refl, go_cond, go_o, go_g, aft_some, cnd_bool, grd_bool, grd_tup, brT_true, brT_false, brT_not, thr_exit, thr_c, thr_nil, stp, stepK, movK, mv1, ex, exv, exvs, upd_some, upd_none, ini, St.val, binK, binV, ofV, pickK, unK, unV, beqK, beq_true, beq_false, if_true, if_false, List.getElem?_cons_zero, List.getElem?_cons_succ, ↓reduceIte, Nat.reduceEqDiff, reduceCtorEq, loadK, adr, deref, Ad.fv, Ad.live, fadrK, List.length_cons, List.length_nil, List.drop_zero, List.drop_succ_cons, List.take_succ_cons, List.take_zero, Nat.reduceAdd, Nat.reduceLeDiff, Nat.zero_add, Nat.add_zero, aeqK, agEq, scEq, boxVK, newVK, exc, vc_agg, vc_int, vc_bool, vc_str, vc_ptr, vc_sl, vc_fn, boxOf, adInf, List.reverse_cons, List.reverse_nil, List.nil_append, List.cons_append, extK, Bool.and_true, Bool.true_and, Bool.not_true, Bool.not_false, resT, resVs, resV, true_and, and_true, storeK, spl_nil, spl_z, spl_1, spl_2, spl_3, spl_4, spl_5, spl_6, spl_7, spl_8, scal_int, scal_bool, scal_str, scal_nil, implies_true, Bool.and_self, Post_ret, Post_normal, PostS_ret, PostS_normal, retT_true, retT_false, flat_bool, flat_int, flat_str, List.take_length, decide_true, decide_false, Option.some.injEq, Value.bool.injEq, Value.int.injEq, Bool.false_and, Bool.and_false, not_false_eq_true, not_true_eq_false, toIntK, List.length_set, Nat.reduceMul, Bool.not_eq_true, Bool.not_eq_false, List.all_cons, List.all_nil, exps, fillL, buildK, strK, nilcK, fnK, callVT, List.size_toArray, List.append_nil, List.singleton_append, boxOK, newOK, scal_nil, List.isEmpty_nil, List.isEmpty_cons, mkVK, mkOK, mkCells, zeros_0, zeros_1, zeros_2, zeros_3, zeros_4, List.map_cons, List.map_nil, h0', h3]
    · have q2 : ¬ j < 128 := by have := of_decide_eq_true q1; omega
      have hll := congrArg List.length hl
      have hp := varL_pos j
      rw [List.length_append] at hll
      obtain ⟨v2, H2, e1, e2, e3, e4, e5, e6, e7⟩ := hs.oneN (m := m) (j % 128 + 128) ho hH.length_le hw (by omega)
      have t1 := and7 (k := j) (by omega)
      have t2 : Int.fdiv (j : Int) (2 ^ (min (Int.toNat 7) IntKind.i64.bits)) = ((j / 128 : Nat) : Int) := by rw [show (2 : Int) ^ (min (Int.toNat 7) IntKind.i64.bits) = 128 by decide, Int.fdiv_eq_ediv_of_nonneg _ (by decide)]; omega
      have t3 := or128 (k := j % 128) (by omega)
      have t4 : IntKind.u8.wrap (((j % 128 + 128 : Nat) : Int)) = ((j % 128 + 128 : Nat) : Int) := wrap8 _ (by omega) (by omega)
      simp only [go_nil, go_blk, go_skip, go_ret, go_exit, go_seq, go_block, go_reg, go_r0, go_r, go_d0, go_d, go_e0, go_e, box2, Option.isSome_some, Nat.le_refl, go_cond, go_o, go_g, aft_some, cnd_bool, grd_bool, grd_tup, brT_true, brT_false, brT_not, thr_exit, thr_c, thr_nil, stp, stepK, movK, mv1, ex, exv, exvs, upd_some, upd_none, ini, St.val, binK, binV, ofV, pickK, unK, unV, beqK, beq_true, beq_false, if_true, if_false, List.getElem?_cons_zero, List.getElem?_cons_succ, ↓reduceIte, Nat.reduceEqDiff, reduceCtorEq, loadK, adr, deref, Ad.fv, Ad.live, fadrK, List.length_cons, List.length_nil, List.drop_zero, List.drop_succ_cons, List.take_succ_cons, List.take_zero, Nat.reduceAdd, Nat.reduceLeDiff, Nat.zero_add, Nat.add_zero, aeqK, agEq, scEq, boxVK, newVK, exc, vc_agg, vc_int, vc_bool, vc_str, vc_ptr, vc_sl, vc_fn, boxOf, adInf, List.reverse_cons, List.reverse_nil, List.nil_append, List.cons_append, extK, Bool.and_true, Bool.true_and, Bool.not_true, Bool.not_false, resT, resVs, resV, true_and, and_true, storeK, spl_nil, spl_z, spl_1, spl_2, spl_3, spl_4, spl_5, spl_6, spl_7, spl_8, scal_int, scal_bool, scal_str, scal_nil, implies_true, Bool.and_self, Post_ret, Post_normal, PostS_ret, PostS_normal, retT_true, retT_false, flat_bool, flat_int, flat_str, List.take_length, decide_true, decide_false, Option.some.injEq, Value.bool.injEq, Value.int.injEq, Bool.false_and, Bool.and_false, not_false_eq_true, not_true_eq_false, toIntK, List.length_set, Nat.reduceMul, Bool.not_eq_true, Bool.not_eq_false, List.all_cons, List.all_nil, exps, fillL, buildK, strK, nilcK, fnK, callVT, List.size_toArray, List.append_nil, List.singleton_append, boxOK, newOK, scal_nil, List.isEmpty_nil, List.isEmpty_cons, mkVK, mkOK, mkCells, zeros_0, zeros_1, zeros_2, zeros_3, zeros_4, List.map_cons, List.map_nil, h0', h3, t1, t3, t4]
      rw [e1]
      rotate_left
      · rfl
      · rfl
      · rfl
      simp only [go_nil, go_blk, go_skip, go_ret, go_exit, go_seq, go_block, go_reg, go_r0, go_r, go_d0, go_d, go_e0, go_e, box2, Option.isSome_some, Nat.le_refl, go_cond, go_o, go_g, aft_some, cnd_bool, grd_bool, grd_tup, brT_true, brT_false, brT_not, thr_exit, thr_c, thr_nil, stp, stepK, movK, mv1, ex, exv, exvs, upd_some, upd_none, ini, St.val, binK, binV, ofV, pickK, unK, unV, beqK, beq_true, beq_false, if_true, if_false, List.getElem?_cons_zero, List.getElem?_cons_succ, ↓reduceIte, Nat.reduceEqDiff, reduceCtorEq, loadK, adr, deref, Ad.fv, Ad.live, fadrK, List.length_cons, List.length_nil, List.drop_zero, List.drop_succ_cons, List.take_succ_cons, List.take_zero, Nat.reduceAdd, Nat.reduceLeDiff, Nat.zero_add, Nat.add_zero, aeqK, agEq, scEq, boxVK, newVK, exc, vc_agg, vc_int, vc_bool, vc_str, vc_ptr, vc_sl, vc_fn, boxOf, adInf, List.reverse_cons, List.reverse_nil, List.nil_append, List.cons_append, extK, Bool.and_true, Bool.true_and, Bool.not_true, Bool.not_false, resT, resVs, resV, true_and, and_true, storeK, spl_nil, spl_z, spl_1, spl_2, spl_3, spl_4, spl_5, spl_6, spl_7, spl_8, scal_int, scal_bool, scal_str, scal_nil, implies_true, Bool.and_self, Post_ret, Post_normal, PostS_ret, PostS_normal, retT_true, retT_false, flat_bool, flat_int, flat_str, List.take_length, decide_true, decide_false, Option.some.injEq, Value.bool.injEq, Value.int.injEq, Bool.false_and, Bool.and_false, not_false_eq_true, not_true_eq_false, toIntK, List.length_set, Nat.reduceMul, Bool.not_eq_true, Bool.not_eq_false, List.all_cons, List.all_nil, exps, fillL, buildK, strK, nilcK, fnK, callVT, List.size_toArray, List.append_nil, List.singleton_append, boxOK, newOK, scal_nil, List.isEmpty_nil, List.isEmpty_cons, mkVK, mkOK, mkCells, zeros_0, zeros_1, zeros_2, zeros_3, zeros_4, List.map_cons, List.map_nil, h0', h3, t2, Int.reduceLT]
      refine ⟨j / 128, by omega, e7 H (Nat.le_refl _) hH, rfl, by omega, v2, _, rfl, e2, e3, ?_⟩
      rw [List.append_assoc, List.singleton_append, ← varL_ge q2]
      exact hl
    · have q2 : j < 128 := by have := of_decide_eq_false q1; omega
      rw [varL_lt q2] at hl
      exact ⟨hH, j, wv, l, rfl, q2, rfl, hs, ho, hl⟩
  · rintro s ⟨hH, j, wv, l, h0', hj, h3, hs, ho, hl⟩
    have hll := congrArg List.length hl
    rw [List.length_append] at hll
    obtain ⟨v2, H2, e1, e2, e3, e4, e5, e6, e7⟩ := hs.oneN (m := m) j ho hH.length_le hw (by simp at hll; omega)
    have hb := e2.b2s (fun x hx => by
      rw [hl] at hx
      obtain ⟨i, hi⟩ := List.getElem?_of_mem hx
      exact (varL_bits k i x hi).1)
    simp only [go_nil, go_blk, go_skip, go_ret, go_exit, go_seq, go_block, go_reg, go_r0, go_r, go_d0, go_d, go_e0, go_e, box2, Option.isSome_some, Nat.le_refl, go_cond, go_o, go_g, aft_some, cnd_bool, grd_bool, grd_tup, brT_true, brT_false, brT_not, thr_exit, thr_c, thr_nil, stp, stepK, movK, mv1, ex, exv, exvs, upd_some, upd_none, ini, St.val, binK, binV, ofV, pickK, unK, unV, beqK, beq_true, beq_false, if_true, if_false, List.getElem?_cons_zero, List.getElem?_cons_succ, ↓reduceIte, Nat.reduceEqDiff, reduceCtorEq, loadK, adr, deref, Ad.fv, Ad.live, fadrK, List.length_cons, List.length_nil, List.drop_zero, List.drop_succ_cons, List.take_succ_cons, List.take_zero, Nat.reduceAdd, Nat.reduceLeDiff, Nat.zero_add, Nat.add_zero, aeqK, agEq, scEq, boxVK, newVK, exc, vc_agg, vc_int, vc_bool, vc_str, vc_ptr, vc_sl, vc_fn, boxOf, adInf, List.reverse_cons, List.reverse_nil, List.nil_append, List.cons_append, extK, Bool.and_true, Bool.true_and, Bool.not_true, Bool.not_false, resT, resVs, resV, true_and, and_true, storeK, spl_nil, spl_z, spl_1, spl_2, spl_3, spl_4, spl_5, spl_6, spl_7, spl_8, scal_int, scal_bool, scal_str, scal_nil, implies_true, Bool.and_self, Post_ret, Post_normal, PostS_ret, PostS_normal, retT_true, retT_false, flat_bool, flat_int, flat_str, List.take_length, decide_true, decide_false, Option.some.injEq, Value.bool.injEq, Value.int.injEq, Bool.false_and, Bool.and_false, not_false_eq_true, not_true_eq_false, toIntK, List.length_set, Nat.reduceMul, Bool.not_eq_true, Bool.not_eq_false, List.all_cons, List.all_nil, exps, fillL, buildK, strK, nilcK, fnK, callVT, List.size_toArray, List.append_nil, List.singleton_append, boxOK, newOK, scal_nil, List.isEmpty_nil, List.isEmpty_cons, mkVK, mkOK, mkCells, zeros_0, zeros_1, zeros_2, zeros_3, zeros_4, List.map_cons, List.map_nil, h0', h3, wrap8 (j : Int) (by omega) (by omega)]
    rw [e1]
    rotate_left
    · rfl
    · rfl
    · rfl
    simp only [go_nil, go_blk, go_skip, go_ret, go_exit, go_seq, go_block, go_reg, go_r0, go_r, go_d0, go_d, go_e0, go_e, box2, Option.isSome_some, Nat.le_refl, go_cond, go_o, go_g, aft_some, cnd_bool, grd_bool, grd_tup, brT_true, brT_false, brT_not, thr_exit, thr_c, thr_nil, stp, stepK, movK, mv1, ex, exv, exvs, upd_some, upd_none, ini, St.val, binK, binV, ofV, pickK, unK, unV, beqK, beq_true, beq_false, if_true, if_false, List.getElem?_cons_zero, List.getElem?_cons_succ, ↓reduceIte, Nat.reduceEqDiff, reduceCtorEq, loadK, adr, deref, Ad.fv, Ad.live, fadrK, List.length_cons, List.length_nil, List.drop_zero, List.drop_succ_cons, List.take_succ_cons, List.take_zero, Nat.reduceAdd, Nat.reduceLeDiff, Nat.zero_add, Nat.add_zero, aeqK, agEq, scEq, boxVK, newVK, exc, vc_agg, vc_int, vc_bool, vc_str, vc_ptr, vc_sl, vc_fn, boxOf, adInf, List.reverse_cons, List.reverse_nil, List.nil_append, List.cons_append, extK, Bool.and_true, Bool.true_and, Bool.not_true, Bool.not_false, resT, resVs, resV, true_and, and_true, storeK, spl_nil, spl_z, spl_1, spl_2, spl_3, spl_4, spl_5, spl_6, spl_7, spl_8, scal_int, scal_bool, scal_str, scal_nil, implies_true, Bool.and_self, Post_ret, Post_normal, PostS_ret, PostS_normal, retT_true, retT_false, flat_bool, flat_int, flat_str, List.take_length, decide_true, decide_false, Option.some.injEq, Value.bool.injEq, Value.int.injEq, Bool.false_and, Bool.and_false, not_false_eq_true, not_true_eq_false, toIntK, List.length_set, Nat.reduceMul, Bool.not_eq_true, Bool.not_eq_false, List.all_cons, List.all_nil, exps, fillL, buildK, strK, nilcK, fnK, callVT, List.size_toArray, List.append_nil, List.singleton_append, boxOK, newOK, scal_nil, List.isEmpty_nil, List.isEmpty_cons, mkVK, mkOK, mkCells, zeros_0, zeros_1, zeros_2, zeros_3, zeros_4, List.map_cons, List.map_nil]
    rw [hb]
    rotate_left
    · rfl
    · rfl
    simp only [go_nil, go_blk, go_skip, go_ret, go_exit, go_seq, go_block, go_reg, go_r0, go_r, go_d0, go_d, go_e0, go_e, box2, Option.isSome_some, Nat.le_refl, go_cond, go_o, go_g, aft_some, cnd_bool, grd_bool, grd_tup, brT_true, brT_false, brT_not, thr_exit, thr_c, thr_nil, stp, stepK, movK, mv1, ex, exv, exvs, upd_some, upd_none, ini, St.val, binK, binV, ofV, pickK, unK, unV, beqK, beq_true, beq_false, if_true, if_false, List.getElem?_cons_zero, List.getElem?_cons_succ, ↓reduceIte, Nat.reduceEqDiff, reduceCtorEq, loadK, adr, deref, Ad.fv, Ad.live, fadrK, List.length_cons, List.length_nil, List.drop_zero, List.drop_succ_cons, List.take_succ_cons, List.take_zero, Nat.reduceAdd, Nat.reduceLeDiff, Nat.zero_add, Nat.add_zero, aeqK, agEq, scEq, boxVK, newVK, exc, vc_agg, vc_int, vc_bool, vc_str, vc_ptr, vc_sl, vc_fn, boxOf, adInf, List.reverse_cons, List.reverse_nil, List.nil_append, List.cons_append, extK, Bool.and_true, Bool.true_and, Bool.not_true, Bool.not_false, resT, resVs, resV, true_and, and_true, storeK, spl_nil, spl_z, spl_1, spl_2, spl_3, spl_4, spl_5, spl_6, spl_7, spl_8, scal_int, scal_bool, scal_str, scal_nil, implies_true, Bool.and_self, Post_ret, Post_normal, PostS_ret, PostS_normal, retT_true, retT_false, flat_bool, flat_int, flat_str, List.take_length, decide_true, decide_false, Option.some.injEq, Value.bool.injEq, Value.int.injEq, Bool.false_and, Bool.and_false, not_false_eq_true, not_true_eq_false, toIntK, List.length_set, Nat.reduceMul, Bool.not_eq_true, Bool.not_eq_false, List.all_cons, List.all_nil, exps, fillL, buildK, strK, nilcK, fnK, callVT, List.size_toArray, List.append_nil, List.singleton_append, boxOK, newOK, scal_nil, List.isEmpty_nil, List.isEmpty_cons, mkVK, mkOK, mkCells, zeros_0, zeros_1, zeros_2, zeros_3, zeros_4, List.map_cons, List.map_nil, hl]
    exact pre_take (e7 H (Nat.le_refl _) hH)
end Go.Proofs.Ytokicdkdllndpaa.Ev
