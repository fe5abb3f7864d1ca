/- Texts of this proof, laid one behind the other: what each shows stands at its head. -/
import Derived.Test.YtdplmjlbkaipiaaB2
import Derived.Sort.Grow
import Derived.Test.YtdplmjlbkaipiaaProg
import Derived.Test.YtdplmjlbkaipiaaRows
/- Lists and records that come in by a law's parameters. -/
namespace Go.Proofs.Ytdplmjlbkaipiaa.Ev
set_option linter.all false
open Go Go.ChangeShapes Go.WideShapes Go.RowKit

theorem add_add (a : Addr) (m j : Nat) : (a.add m).add j = a.add (m + j) := by
  unfold Addr.add
  by_cases hm : m = 0
  · subst hm; simp
  · by_cases hj : j = 0
    · subst hj; simp [hm]
    · simp [hm, hj, Nat.add_assoc]

theorem cell_some {w : World} {a : Addr} {k : Nat} {v : Value} (h : w.cell? (a.add k) = some v) (hs : k = 0 → a.spot = none) :
    ∃ (ds : Array Value) (e : TypeId) (lo hi : Nat), w.heap[a.block]? = some (.cells ds e (lo, hi)) ∧ ds[a.off + k]? = some v := by
  have hb : (a.add k).block = a.block := by unfold Addr.add; split <;> rfl
  have ho : (a.add k).off = a.off + k := by
    unfold Addr.add
    split
    · rename_i hk; subst hk; rfl
    · rfl
  unfold World.cell? at h
  rw [hb, ho] at h
  split at h
  · rename_i c e r hc
    split at h
    · cases h
    · exact ⟨c, e, r.1, r.2, hc, h⟩
  · cases h

theorem cell_spot {w : World} {a : Addr} {v : Value} (h : w.cell? (a.add 0) = some v) : a.spot = none := by
  have : a.add 0 = a := by simp [Addr.add]
  rw [this] at h
  unfold World.cell? at h
  split at h
  · split at h
    · cases h
    · rename_i hs
      cases hsp : a.spot with
      | none => rfl
      | some x => rw [hsp] at hs; exact absurd rfl hs
  · cases h

section
variable {P : Program}

theorem Bld.slice {α : Type} {R : Hp → α → List Value → Prop} {ok : α → Prop} {t e : TypeId} {sz : Nat} (ht : P.underlying t = some (.slice e)) (hc : P.cellsOf t = 1) (he : Bld P e sz R ok) :
    Bld P t 1 (fun M l vs => ∃ v, vs = [v] ∧ Sl (R M) sz M v l) (fun l => l.length ≤ maxLen ∧ ∀ x ∈ l, ok x) := by
  refine ⟨hc, by omega, fun {M M' z vs} hp ⟨v, h1, h2⟩ => ⟨v, h1, (h2.pre hp).frame (fun a _ cs h => he.mono hp h) fun _ _ _ _ _ _ => rfl⟩, ?_⟩
  intro H enc w base held fuel cs x h hb J M hr
  rcases DataW.trod_slice ht h with ⟨rfl, _⟩ | ⟨a, len, cap, elems, rest, n, _, rfl, _, hbase, hlc, hm, hlen, hel, hre, _⟩
  · exact ⟨J, M, _, [], .refl _ _, hr, .cons .nsl .nil, by simp [Value.oneCell'], ⟨_, rfl, .inl ⟨rfl, rfl⟩⟩, by simp⟩
  · have hpos := he.pos
    have hesz := he.cells
    have hblk : Blk w := hb a len cap (by simp)
    have hread : ∀ i, i < cap → ∃ c, w.cells? base (a.add (i * sz)) sz = some c ∧ (i < len → ∃ y, DataW.trod enc P w base (fun _ => true) held n e c = some y) := fun i hi => by
      by_cases hil : i < len
      · have h1 := hel i hil
        rw [List.getElem?_eq_getElem (by omega), hesz] at h1
        obtain ⟨c, h2, h3⟩ := Option.bind_eq_some_iff.1 h1
        exact ⟨c, h2, fun _ => ⟨_, h3⟩⟩
      · obtain ⟨h1, h2⟩ := hre rfl
        have h3 := h2 (i - len) (by omega)
        rw [List.getElem?_eq_getElem (by omega), hesz, show len + (i - len) = i by omega] at h3
        obtain ⟨c, h4, h5⟩ := Option.bind_eq_some_iff.1 h3
        exact ⟨c, h4, fun h => absurd h hil⟩
    have key : ∀ m, m ≤ len → ∃ (J' : Inj) (M' : Hp) (vs rc : List Value) (z : List α), Ext J M J' M' ∧ RdRel J' M' w ∧ LRel J' M' vs rc ∧ (∀ v ∈ vs, v.oneCell' = true) ∧ vs.length = m * sz ∧
        (∀ k, k < m * sz → w.cell? (a.add k) = rc[k]?) ∧ z.length = m ∧ ∀ i x, z[i]? = some x → R M' x ((vs.drop (i * sz)).take sz) ∧ ok x := fun m => by
      induction m with
      | zero => exact fun _ => ⟨J, M, [], [], [], .refl _ _, hr, .nil, by simp, by simp, fun k hk => by omega, rfl, fun i x hx => by simp at hx⟩
      | succ m ih =>
        intro hml
        obtain ⟨J1, M1, vs1, rc1, z1, e1, r1, l1, o1, n1, c1, zl1, zr1⟩ := ih (by omega)
        obtain ⟨c, hc1, hc2⟩ := hread m (by omega)
        obtain ⟨y, hy⟩ := hc2 (by omega)
        obtain ⟨_, hcl, hcell⟩ := World.cells?_some hc1
        obtain ⟨J2, M2, vs2, z2, e2, r2, l2, o2, p2, k2⟩ := he.bld hy (fun _ _ _ _ => hblk) J1 M1 r1
        have hv2 : vs2.length = sz := by rw [l2.1, hcl]
        refine ⟨J2, M2, vs1 ++ vs2, rc1 ++ c, z1 ++ [z2], e1.trans e2, r2, (l1.keep e2.keep).append l2, fun v hv => ?_, by rw [List.length_append, n1, hv2, Nat.succ_mul], fun k hk => ?_, by simp [zl1], fun i x hx => ?_⟩
        · rcases List.mem_append.1 hv with h | h
          · exact o1 v h
          · exact o2 v h
        · have hrc : rc1.length = m * sz := by rw [← l1.1, n1]
          by_cases hkm : k < m * sz
          · rw [List.getElem?_append_left (by omega)]
            exact c1 k hkm
          · rw [Nat.succ_mul] at hk
            rw [List.getElem?_append_right (by omega), hrc, ← hcell (k - m * sz) (by omega), add_add, show m * sz + (k - m * sz) = k by omega]
        · by_cases hi : i < m
          · rw [List.getElem?_append_left (by omega)] at hx
            obtain ⟨q1, q2⟩ := zr1 i x hx
            refine ⟨?_, q2⟩
            have hle : (i + 1) * sz ≤ m * sz := Nat.mul_le_mul_right _ hi
            rw [Nat.succ_mul] at hle
            rw [List.drop_append_of_le_length (by omega), List.take_append_of_le_length (by rw [List.length_drop]; omega)]
            exact he.mono e2.1 q1
          · have hil := (List.getElem?_eq_some_iff.1 hx).1
            rw [List.length_append, List.length_singleton] at hil
            have him : i = m := by omega
            subst him
            rw [List.getElem?_append_right (by omega), zl1, Nat.sub_self] at hx
            cases hx
            refine ⟨?_, k2⟩
            rw [List.drop_append_of_le_length (by omega), List.drop_of_length_le (by omega), List.nil_append, List.take_of_length_le (by omega)]
            exact p2
    obtain ⟨J1, M1, vs, rc, z, e1, r1, l1, o1, n1, c1, zl, zr⟩ := key len (Nat.le_refl _)
    have fin : ∀ (l : Loc) (ds : Array Value) (e' : TypeId) (lo hi : Nat), w.heap[l.b]? = some (.cells ds e' (lo, hi)) → ds.size = l.sz → l.sh + vs.length ≤ l.sz → LRel J1 M1 vs ((ds.toList.drop l.sh).take vs.length) →
        ((len = 0 ∧ cap = 0) ∨ (a = ⟨l.b, l.sh + 0, none⟩ ∧ l.sh + 0 + cap * sz ≤ l.sz)) →
        ∃ (J' : Inj) (M' : Hp) (vs : List Value) (z : List α), Ext J M J' M' ∧ RdRel J' M' w ∧ LRel J' M' vs [.slice (some a) len cap] ∧ (∀ v ∈ vs, v.oneCell' = true) ∧ (∃ v, vs = [v] ∧ Sl (R M') sz M' v z) ∧ (z.length ≤ maxLen ∧ ∀ x ∈ z, ok x) := fun l ds e' lo hi h1 h2 h3 h4 h5 => by
      obtain ⟨x1, x2⟩ := r1.push h1 h2 h3 h4 o1
      refine ⟨_, _, [.slice (some ⟨M1.length, 0, some sz⟩) len (len * sz)], z, e1.trans x1, x2, .cons (.sl _ _ _ _ _ vs a cap (by simp) (by omega) hlc (Nat.mul_le_mul_right _ hlc) fun _ => ⟨l, by simp, h5⟩) .nil, by simp [Value.oneCell'], ⟨_, rfl, ?_⟩, by omega, fun y hy => ?_⟩
      · refine .inr ⟨M1.length, 0, len * sz, vs, by rw [zl], by simp, by omega, by rw [zl]; omega, by unfold maxLen at hm; omega, fun i y hy => ?_⟩
        rw [Nat.zero_add]
        exact he.mono x1.1 (zr i y hy).1
      · obtain ⟨i, hi⟩ := List.getElem?_of_mem hy
        exact (zr i y hi).2
    by_cases hcap : cap = 0
    · have hl0 : len = 0 := by omega
      obtain ⟨b, ds, e', lo, hi, hbk⟩ := hblk
      have hv0 : vs = [] := List.eq_nil_of_length_eq_zero (by rw [n1, hl0]; omega)
      refine fin ⟨b, 0, ds.size⟩ ds e' lo hi hbk rfl (by rw [hv0]; simp) ?_ (.inl ⟨hl0, hcap⟩)
      rw [hv0]
      exact ⟨by simp, fun i x y hx => by simp at hx⟩
    · obtain ⟨c0, hc0, _⟩ := hread 0 (by omega)
      obtain ⟨_, hcl0, hcell0⟩ := World.cells?_some hc0
      have q0 := hcell0 0 hpos
      rw [add_add, Nat.zero_mul, Nat.zero_add, List.getElem?_eq_getElem (by omega)] at q0
      have hspot := cell_spot q0
      obtain ⟨ds, e', lo, hi, hbk, _⟩ := cell_some q0 fun _ => hspot
      have hcells : ∀ k v, w.cell? (a.add k) = some v → ds[a.off + k]? = some v := fun k v hv => by
        obtain ⟨ds2, e2, lo2, hi2, hb2, hd2⟩ := cell_some hv fun _ => hspot
        rw [hbk] at hb2
        cases hb2
        exact hd2
      obtain ⟨c9, hc9, _⟩ := hread (cap - 1) (by omega)
      obtain ⟨_, hcl9, hcell9⟩ := World.cells?_some hc9
      have q9 := hcell9 (sz - 1) (by omega)
      rw [add_add, List.getElem?_eq_getElem (by omega)] at q9
      have hsz9 := (Array.getElem?_eq_some_iff.1 (hcells _ _ q9)).1
      have hmul : (cap - 1) * sz + sz = cap * sz := by
        rw [← Nat.succ_mul]
        congr 1
        omega
      have hlm : len * sz ≤ cap * sz := Nat.mul_le_mul_right _ hlc
      refine fin ⟨a.block, a.off, ds.size⟩ ds e' lo hi hbk rfl (by simp only; omega) ⟨?_, fun i x y hx hy => ?_⟩ (.inr ⟨?_, by simp only; omega⟩)
      · rw [List.length_take, List.length_drop, Array.length_toList]
        show vs.length = min vs.length (ds.size - a.off)
        omega
      · have hi2 := (List.getElem?_eq_some_iff.1 hx).1
        obtain ⟨y2, hy2, hr2⟩ := l1.get hx
        have := c1 i (by omega)
        rw [hy2] at this
        have h3 := hcells _ _ this
        rw [take_drop_get, if_pos hi2, Array.getElem?_toList, h3] at hy
        cases hy
        exact hr2
      · cases a
        simp only at hspot
        subst hspot
        rfl

/-- Fields in line, from an offset on. -/
structure SeqB {α : Type} (P : Program) (sz : Nat) (R : Hp → α → List Value → Prop) (ok : α → Prop) (fs : List (TypeId × Nat)) (off : Nat) : Prop where
  pos : 0 < sz
  mono : ∀ {M M' : Hp} {z : α} {vs : List Value}, M <+: M' → R M z vs → R M' z vs
  bld : ∀ {H : Type} {enc : TypeId × Value → H} {w : World} {base : Nat} {held : Bool} {fuel : Nat} {cs : List Value}, cs.length = off + sz →
    (∀ f, f ∈ fs → ∃ y, DataW.trod enc P w base (fun _ => true) held fuel f.1 ((cs.drop f.2).take (P.cellsOf f.1)) = some y) → (∀ a l c, .slice (some a) l c ∈ cs → Blk w) → ∀ (J : Inj) (M : Hp), RdRel J M w →
    ∃ (J' : Inj) (M' : Hp) (vs : List Value) (z : α), Ext J M J' M' ∧ RdRel J' M' w ∧ LRel J' M' vs (cs.drop off) ∧ (∀ v ∈ vs, v.oneCell' = true) ∧ R M' z vs ∧ ok z

theorem SeqB.one {α : Type} {R : Hp → α → List Value → Prop} {ok : α → Prop} {t : TypeId} {sz off : Nat} (h : Bld P t sz R ok) : SeqB P sz R ok [(t, off)] off :=
  ⟨h.pos, h.mono, fun {H enc w base held fuel cs} hl hf hb J M hr => by
    obtain ⟨y, hy⟩ := hf (t, off) (by simp)
    have e : (cs.drop off).take (P.cellsOf t) = cs.drop off := List.take_of_length_le (by rw [List.length_drop, h.cells]; omega)
    simp only [e] at hy
    exact h.bld hy (fun a l c hm => hb a l c (List.mem_of_mem_drop hm)) J M hr⟩

theorem SeqB.cons {α β : Type} {R1 : Hp → α → List Value → Prop} {R2 : Hp → β → List Value → Prop} {ok1 : α → Prop} {ok2 : β → Prop} {t : TypeId} {s1 s2 off off' : Nat} {fs : List (TypeId × Nat)} (h : Bld P t s1 R1 ok1) (ho : off' = off + s1) (hs : SeqB P s2 R2 ok2 fs off') :
    SeqB P (s1 + s2) (fun M (x : α × β) vs => ∃ u v, vs = u ++ v ∧ R1 M x.1 u ∧ R2 M x.2 v) (fun x => ok1 x.1 ∧ ok2 x.2) ((t, off) :: fs) off := by
  refine ⟨by have := h.pos; omega, fun {M M' z vs} hp ⟨u, v, e, a, b⟩ => ⟨u, v, e, h.mono hp a, hs.mono hp b⟩, ?_⟩
  intro H enc w base held fuel cs hl hf hb J M hr
  obtain ⟨y, hy⟩ := hf (t, off) (by simp)
  have hl' : cs.length = off + (s1 + s2) := hl
  obtain ⟨J1, M1, vs1, z1, e1, r1, l1, o1, p1, k1⟩ := h.bld hy (fun a l c hm => hb a l c (List.mem_of_mem_drop (List.mem_of_mem_take hm))) J M hr
  obtain ⟨J2, M2, vs2, z2, e2, r2, l2, o2, p2, k2⟩ := hs.bld (by rw [ho]; omega) (fun f hff => hf f (List.mem_cons_of_mem _ hff)) hb J1 M1 r1
  refine ⟨J2, M2, vs1 ++ vs2, (z1, z2), e1.trans e2, r2, ?_, fun v hv => ?_, ⟨vs1, vs2, rfl, h.mono e2.1 p1, p2⟩, k1, k2⟩
  · have := (l1.keep e2.keep).append l2
    rw [h.cells, ho, ← List.drop_drop, List.take_append_drop] at this
    exact this
  · rcases List.mem_append.1 hv with hm | hm
    · exact o1 v hm
    · exact o2 v hm

theorem Bld.struct {α : Type} {R : Hp → α → List Value → Prop} {ok : α → Prop} {t : TypeId} {sz : Nat} {fs : Array Field} (ht : P.underlying t = some (.struct fs)) (hc : P.cellsOf t = sz) (hs : SeqB P sz R ok (fs.toList.map fun f => (f.type, f.offset)) 0) : Bld P t sz R ok := by
  refine ⟨hc, hs.pos, hs.mono, fun {H enc w base held fuel cs x} h hb J M hr => ?_⟩
  obtain ⟨xs, n, _, _, hl, hxl, hx⟩ := DataW.trod_struct ht h
  have := hs.bld (enc := enc) (w := w) (base := base) (held := held) (fuel := n) (cs := cs) (by rw [hl, hc]; omega) (fun y hy => by
    obtain ⟨fl, hfl, rfl⟩ := List.mem_map.1 hy
    obtain ⟨i, hi⟩ := List.getElem?_of_mem hfl
    have hi' : fs[i]? = some fl := by rw [← hi]; simp
    have := hx i fl hi'
    have hlt : i < xs.length := by
      have := (List.getElem?_eq_some_iff.1 hi).1
      simp at this
      omega
    rw [List.getElem?_eq_getElem hlt] at this
    exact ⟨_, this⟩) hb J M hr
  simpa using this

theorem Bld.conv {α β : Type} {R : Hp → α → List Value → Prop} {R' : Hp → β → List Value → Prop} {ok : α → Prop} {ok' : β → Prop} {t : TypeId} {sz : Nat} (h : Bld P t sz R ok) (f : α → β) (hR : ∀ M z vs, R M z vs → R' M (f z) vs) (hm : ∀ {M M' : Hp} {z : β} {vs : List Value}, M <+: M' → R' M z vs → R' M' z vs) (hk : ∀ z, ok z → ok' (f z)) : Bld P t sz R' ok' :=
  ⟨h.cells, h.pos, hm, fun ht hb J M hr => by
    obtain ⟨J', M', vs, z, a1, a2, a3, a4, a5, a6⟩ := h.bld ht hb J M hr
    exact ⟨J', M', vs, f z, a1, a2, a3, a4, hR _ _ _ a5, hk _ a6⟩⟩

end
end Go.Proofs.Ytdplmjlbkaipiaa.Ev

/- A law's parameters, one by one, and the whole of it. -/
namespace Go.Proofs.Ytdplmjlbkaipiaa.Ev
set_option linter.all false
open Go Go.ChangeShapes Go.WideShapes Go.RowKit

structure ArgB {α : Type} (P : Program) (t : TypeId) (V : Hp → α → Value → Prop) (ok : α → Prop) : Prop where
  mono : ∀ {M M' : Hp} {z : α} {v : Value}, M <+: M' → V M z v → V M' z v
  arg : ∀ {H : Type} {enc : TypeId × Value → H} {w : World} {v : Value} {D : DataW H} {ps : List MemPlace} {base : Nat}, DataW.Trod enc P w 0 (fun _ => true) true t v D ps → Value.okWide P w .any base t v → ∀ (J : Inj) (M : Hp), RdRel J M w →
    ∃ (J' : Inj) (M' : Hp) (u : Value) (z : α), Ext J M J' M' ∧ RdRel J' M' w ∧ VRel J' M' u v ∧ V M' z u ∧ ok z

section
variable {P : Program}

theorem blk_of_shape {w : World} {r : Nat} {x : TypeId × Nat} (h : w.shape? r = some x) : Blk w := by
  unfold World.shape? at h
  split at h
  · rename_i c e q hc
    exact ⟨r, c, e, q.1, q.2, hc⟩
  · cases h

theorem cell_blk {w : World} {r : Reach} {base : Nat} {t : TypeId} {a : Addr} {l c : Nat} (h : Cell.okWide P w r base t (.slice (some a) l c)) : Blk w := by
  unfold Cell.okWide at h
  have h2 : Cell.ok P w r base t (.slice (some a) l c) := by
    revert h
    cases P.underlying t with
    | none => exact fun h => h
    | some d => cases d <;> exact fun h => h
  unfold Cell.ok at h2
  revert h2
  cases P.underlying t with
  | none => exact fun h => h.elim
  | some d => cases d <;> first | exact fun h => h.elim | exact fun h => by obtain ⟨_, _, _, _, row, cells, hs, _⟩ := h; exact blk_of_shape hs

theorem ArgB.one {α : Type} {R : Hp → α → List Value → Prop} {ok : α → Prop} {t : TypeId} (h : Bld P t 1 R ok) (hk : ∀ {w : World} {r : Reach} {base : Nat} {v : Value}, Value.okWide P w r base t v → v.cells = #[v] ∧ Cell.okWide P w r base t v) :
    ArgB P t (fun M z v => R M z [v]) ok :=
  ⟨h.mono, fun {H enc w v D ps base} hT hv J M hr => by
    obtain ⟨fuel, hf⟩ := hT
    obtain ⟨hc, hcell⟩ := hk hv
    rw [hc] at hf
    obtain ⟨J', M', vs, z, a1, a2, a3, a4, a5, a6⟩ := h.bld hf (fun a l c hm => by
      have h9 : Value.slice (some a) l c = v := by simpa using hm
      rw [← h9] at hcell
      exact cell_blk hcell) J M hr
    obtain ⟨u, rfl⟩ : ∃ u, vs = [u] := by
      have := a3.1
      cases vs with
      | nil => simp at this
      | cons y l => cases l with
        | nil => exact ⟨y, rfl⟩
        | cons z l => simp at this
    exact ⟨J', M', u, z, a1, a2, a3.2 0 u v rfl rfl, a5, a6⟩⟩

theorem ArgB.slice {α : Type} {R : Hp → α → List Value → Prop} {ok : α → Prop} {t e : TypeId} {sz : Nat} (ht : P.underlying t = some (.slice e)) (hc : P.cellsOf t = 1) (he : Bld P e sz R ok) :
    ArgB P t (fun M l v => Sl (R M) sz M v l) (fun l => l.length ≤ maxLen ∧ ∀ x ∈ l, ok x) := by
  have h := ArgB.one (Bld.slice ht hc he) (fun {w r base v} hv => by
    obtain ⟨a, len, cap, rfl⟩ := okWide_slice ht hv
    exact ⟨rfl, by unfold Value.okWide at hv; rw [ht] at hv; exact hv⟩)
  exact ⟨fun hp hs => by
    obtain ⟨v, e, h2⟩ := h.mono hp ⟨_, rfl, hs⟩
    cases e
    exact h2, fun hT hv J M hr => by
    obtain ⟨J', M', u, z, a1, a2, a3, ⟨v, e, h2⟩, a5⟩ := h.arg hT hv J M hr
    cases e
    exact ⟨J', M', u, z, a1, a2, a3, h2, a5⟩⟩

theorem ArgB.int {k : IntKind} {t : TypeId} (ht : P.underlying t = some (.int k)) (hc : P.cellsOf t = 1) : ArgB P t (fun _ n v => v = .int k n) (fun n => (Lit.int k n).wf = true) := by
  have h := ArgB.one (Bld.int ht hc) (fun {w r base v} hv => by
    obtain ⟨n, rfl⟩ := okWide_int ht hv
    exact ⟨rfl, by unfold Value.okWide at hv; rw [ht] at hv; exact hv⟩)
  exact ⟨fun _ h => h, fun hT hv J M hr => by
    obtain ⟨J', M', u, z, a1, a2, a3, a4, a5⟩ := h.arg hT hv J M hr
    exact ⟨J', M', u, z, a1, a2, a3, by simpa using a4, a5⟩⟩

theorem ArgB.bool {t : TypeId} (ht : P.underlying t = some .bool) (hc : P.cellsOf t = 1) : ArgB P t (fun _ b v => v = .bool b) (fun _ => True) := by
  have h := ArgB.one (Bld.bool ht hc) (fun {w r base v} hv => by
    obtain ⟨n, rfl⟩ := okWide_bool ht hv
    exact ⟨rfl, by unfold Value.okWide at hv; rw [ht] at hv; exact hv⟩)
  exact ⟨fun _ h => h, fun hT hv J M hr => by
    obtain ⟨J', M', u, z, a1, a2, a3, a4, a5⟩ := h.arg hT hv J M hr
    exact ⟨J', M', u, z, a1, a2, a3, by simpa using a4, a5⟩⟩

theorem ArgB.string {t : TypeId} (ht : P.underlying t = some .string) (hc : P.cellsOf t = 1) : ArgB P t (fun _ s v => v = .string s) (fun s => s.size ≤ maxLen) := by
  have h := ArgB.one (Bld.string ht hc) (fun {w r base v} hv => by
    obtain ⟨n, rfl⟩ := okWide_string ht hv
    exact ⟨rfl, by unfold Value.okWide at hv; rw [ht] at hv; exact hv⟩)
  exact ⟨fun _ h => h, fun hT hv J M hr => by
    obtain ⟨J', M', u, z, a1, a2, a3, a4, a5⟩ := h.arg hT hv J M hr
    exact ⟨J', M', u, z, a1, a2, a3, by simpa using a4, a5⟩⟩

theorem ArgB.struct {α : Type} {R : Hp → α → List Value → Prop} {ok : α → Prop} {t : TypeId} {sz : Nat} {fs : Array Field} (ht : P.underlying t = some (.struct fs)) (h : Bld P t sz R ok) :
    ArgB P t (fun M z v => ∃ vs, v = .agg vs ∧ R M z vs.toList) ok :=
  ⟨fun hp ⟨vs, e, hR⟩ => ⟨vs, e, h.mono hp hR⟩, fun {H enc w v D ps base} hT hv J M hr => by
    obtain ⟨fuel, hf⟩ := hT
    have hv2 := hv
    unfold Value.okWide at hv2
    rw [ht] at hv2
    obtain ⟨cs, rfl, hsz, ts, _, _, hcs⟩ := hv2
    obtain ⟨J', M', vs, z, a1, a2, a3, a4, a5, a6⟩ := h.bld hf (fun a l c hm => by
      obtain ⟨i, hi⟩ := List.getElem?_of_mem hm
      obtain ⟨u, _, hok⟩ := hcs i _ (by simpa [Value.cells] using hi)
      exact cell_blk hok) J M hr
    refine ⟨J', M', .agg vs.toArray, z, a1, a2, ?_, ⟨vs.toArray, rfl, a5⟩, a6⟩
    have hl := a3.1
    refine .agg _ _ (by simpa [Value.cells] using hl) (fun i x hx => a4 x (List.mem_of_getElem? (by simpa using hx))) fun i x y hx hy => a3.2 i x y (by simpa using hx) (by simpa [Value.cells] using hy)⟩

end
end Go.Proofs.Ytdplmjlbkaipiaa.Ev

/- Growing a slice of one's own. -/
namespace Go.Proofs.Ytdplmjlbkaipiaa.Ev
set_option linter.all false
open Go

section
variable {m : Md} {α : Type} {R : α → List Value → Prop} {esz : Nat} {H : Hp} {v : Value} {l : List α}

theorem Sl.app {N n bytes : Nat} {l2 : List α} {cs : List Value} (h : Sl R esz H v l) (ho : OwnS N v) (hN : N ≤ H.length) (hw : ∀ id, N ≤ id → m.wr id = true) (hnr : m.nr = true → cs.all scal = true) (hpos : 0 < l2.length) (hcs : cs.length = l2.length * esz)
    (hr : ∀ (i : Nat) a, l2[i]? = some a → R a ((cs.drop (i * esz)).take esz)) (hb : (l.length + l2.length) * bytes ≤ Ev.room) (hb2 : l.length + l2.length ≤ Ev.room) :
    ∃ v' H', (∀ (s : St) (x y : X), s.H = H → exv s.ρ x = some v → srcOf H esz (ex s.ρ y) = some (l2.length, cs) → appK m s esz bytes x y = some (.val v', { s with H := H' })) ∧ Sl R esz H' v' (l ++ l2) ∧ OwnS N v' ∧
      (∀ j, j < H.length → j ∉ idsOf v → H'[j]? = H[j]?) ∧ H.length ≤ H'.length ∧ (∀ j ∈ idsOf v', j ∈ idsOf v ∨ H.length ≤ j) ∧ ∀ H0 : Hp, H0.length ≤ N → H0 <+: H → H0 <+: H' := by
  have hb3 : l.length + l2.length ≤ 9223372036854775807 := by unfold Ev.room at hb2; omega
  rcases ho with rfl | ⟨id, e, ln, cap, rfl, hid⟩
  · have hl : l = [] := by
      rcases h with ⟨_, h⟩ | ⟨_, _, _, _, h, _⟩
      · exact h
      · cases h
    subst hl
    simp only [List.length_nil, Nat.zero_add] at hb hb2 hb3
    refine ⟨.slice (some ⟨H.length, 0, some esz⟩) l2.length (l2.length * esz), H ++ [cs], fun s x y hH hx hy => ?_, .inr ⟨H.length, 0, l2.length * esz, cs, by simp, by simp, by omega, by simp, by simpa using hb3, fun i a hi => ?_⟩,
      .inr ⟨_, _, _, _, rfl, hN⟩, fun j hj _ => by rw [List.getElem?_append_left hj], by simp, fun j hj => ?_, fun H0 _ hp => pre_push hp⟩
    · unfold appK
      rw [hx, hH, hy]
      simp only
      rw [if_neg (by omega), if_pos ⟨hb, hb2⟩]
    · rw [Nat.zero_add]
      exact hr i a (by simpa using hi)
    · simp [idsOf] at hj
      exact .inr (by omega)
  · rcases h with ⟨h, _⟩ | ⟨id', off, cap', o, h, hg, hoc, hlc, hroom, hrr⟩
    · cases h
    cases h
    have hidl := (List.getElem?_eq_some_iff.1 hg).1
    have hwid := hw id hid
    have hold : ∀ (q : List Value), (∀ k, k < l.length * esz → q[k]? = o[k]?) → ∀ (i : Nat) a, l[i]? = some a → R a ((q.drop (0 + i * esz)).take esz) := fun q hq i a hi => by
      have hil := (List.getElem?_eq_some_iff.1 hi).1
      have hm : (i + 1) * esz ≤ l.length * esz := Nat.mul_le_mul_right _ hil
      rw [Nat.succ_mul] at hm
      have : (q.drop (0 + i * esz)).take esz = (o.drop (0 + i * esz)).take esz := by
        refine List.ext_getElem? fun k => ?_
        rw [take_drop_get, take_drop_get]
        by_cases hk : k < esz
        · rw [if_pos hk, if_pos hk, hq _ (by omega)]
        · rw [if_neg hk, if_neg hk]
      rw [this]
      exact hrr i a hi
    have hnew : ∀ (q : List Value), (∀ k, k < cs.length → q[l.length * esz + k]? = cs[k]?) → ∀ (i : Nat) a, l2[i]? = some a → R a ((q.drop (0 + (l.length + i) * esz)).take esz) := fun q hq i a hi => by
      have hil := (List.getElem?_eq_some_iff.1 hi).1
      have hm : (i + 1) * esz ≤ l2.length * esz := Nat.mul_le_mul_right _ hil
      rw [Nat.succ_mul] at hm
      have : (q.drop (0 + (l.length + i) * esz)).take esz = (cs.drop (i * esz)).take esz := by
        refine List.ext_getElem? fun k => ?_
        rw [take_drop_get, take_drop_get]
        by_cases hk : k < esz
        · rw [if_pos hk, if_pos hk, Nat.zero_add, Nat.add_mul, Nat.add_assoc, hq _ (by omega)]
        · rw [if_neg hk, if_neg hk]
      rw [this]
      exact hr i a hi
    have both : ∀ (q : List Value), (∀ k, k < l.length * esz → q[k]? = o[k]?) → (∀ k, k < cs.length → q[l.length * esz + k]? = cs[k]?) → ∀ (i : Nat) a, (l ++ l2)[i]? = some a → R a ((q.drop (0 + i * esz)).take esz) := fun q h1 h2 i a hi => by
      by_cases hil : i < l.length
      · rw [List.getElem?_append_left hil] at hi
        exact hold q h1 i a hi
      · rw [List.getElem?_append_right (by omega)] at hi
        have := hnew q h2 _ a hi
        rw [show l.length + (i - l.length) = i by omega] at this
        exact this
    by_cases hfit : (l.length + l2.length) * esz ≤ cap
    · have hfit' : l.length * esz + cs.length ≤ cap := by rw [hcs, ← Nat.add_mul]; exact hfit
      refine ⟨.slice (some ⟨id, 0, some esz⟩) (l.length + l2.length) cap, H.set id (spl o (0 + l.length * esz) cs), fun s x y hH hx hy => ?_, .inr ⟨id, 0, cap, _, by rw [List.length_append], by rw [List.getElem?_set_self hidl], by rw [spl_length]; exact hoc, by rw [List.length_append]; exact hfit, by rw [List.length_append]; exact hb3,
        both _ (fun k hk => ?_) (fun k hk => ?_)⟩, .inr ⟨_, _, _, _, rfl, hid⟩, fun j hj hne => ?_, by simp, fun j hj => .inl hj, fun H0 h0 hp => pre_set hp (by omega)⟩
      · unfold appK
        rw [hx, hH, hy]
        simp only
        rw [if_neg (by omega), hg]
        simp only
        rw [if_pos ⟨trivial, hoc, hwid, hnr⟩, if_pos hfit]
      · rw [spl_get, if_neg (by omega)]
      · rw [spl_get, if_pos (by omega), if_pos (by omega)]
        congr 1
        omega
      · rw [List.getElem?_set_ne]
        simp [idsOf] at hne
        omega
    · have htl : (o.take (l.length * esz)).length = l.length * esz := by rw [List.length_take]; omega
      refine ⟨.slice (some ⟨id, 0, some esz⟩) (l.length + l2.length) ((l.length + l2.length) * esz), H.set id (o.take (l.length * esz) ++ cs), fun s x y hH hx hy => ?_, .inr ⟨id, 0, _, _, by rw [List.length_append], by rw [List.getElem?_set_self hidl], by rw [List.length_append, htl, hcs, ← Nat.add_mul, Nat.zero_add], by rw [List.length_append]; exact Nat.le_refl _, by rw [List.length_append]; exact hb3,
        both _ (fun k hk => ?_) (fun k hk => ?_)⟩, .inr ⟨_, _, _, _, rfl, hid⟩, fun j hj hne => ?_, by simp, fun j hj => .inl hj, fun H0 h0 hp => pre_set hp (by omega)⟩
      · unfold appK
        rw [hx, hH, hy]
        simp only
        rw [if_neg (by omega), hg]
        simp only
        rw [if_pos ⟨trivial, hoc, hwid, hnr⟩, if_neg hfit, if_pos ⟨trivial, by omega, hb, hb2⟩]
      · rw [List.getElem?_append_left (by omega), List.getElem?_take, if_pos hk]
      · rw [List.getElem?_append_right (by omega), htl, show l.length * esz + k - l.length * esz = k by omega]
      · rw [List.getElem?_set_ne]
        simp [idsOf] at hne
        omega

theorem Sl.src (h : Sl R esz H v l) : ∃ cs, srcOf H esz (.val v) = some (l.length, cs) ∧ cs.length = l.length * esz ∧ ∀ (i : Nat) a, l[i]? = some a → R a ((cs.drop (i * esz)).take esz) := by
  rcases h with ⟨rfl, rfl⟩ | ⟨id, off, cap, o, rfl, hg, hoc, hlc, hroom, hrr⟩
  · exact ⟨[], rfl, by simp, fun i a hi => by simp at hi⟩
  · refine ⟨(o.drop off).take (l.length * esz), ?_, by rw [List.length_take, List.length_drop]; omega, fun i a hi => ?_⟩
    · simp only [srcOf, rowOf, hg]
      rw [if_pos hoc]
      simp only
      rw [if_pos ⟨trivial, by omega⟩]
    · have hil := (List.getElem?_eq_some_iff.1 hi).1
      have hm : (i + 1) * esz ≤ l.length * esz := Nat.mul_le_mul_right _ hil
      rw [Nat.succ_mul] at hm
      have : (((o.drop off).take (l.length * esz)).drop (i * esz)).take esz = (o.drop (off + i * esz)).take esz := by
        refine List.ext_getElem? fun k => ?_
        rw [take_drop_get ((o.drop off).take (l.length * esz)) (i * esz) esz k, take_drop_get o (off + i * esz) esz k]
        by_cases hk : k < esz
        · rw [if_pos hk, if_pos hk, take_drop_get, if_pos (by omega), Nat.add_assoc]
        · rw [if_neg hk, if_neg hk]
      rw [this]
      exact hrr i a hi

theorem Sl.copy {bytes : Nat} (h : Sl R esz H v l) (hb : l.length * bytes ≤ Ev.room) (hb2 : l.length ≤ Ev.room) :
    ∃ v' H', (∀ (s : St) (x y : X), s.H = H → exv s.ρ x = some (.slice none 0 0) → ex s.ρ y = .val v → appK m s esz bytes x y = some (.val v', { s with H := H' })) ∧ H <+: H' ∧ Sl R esz H' v' l ∧ OwnS H.length v' := by
  obtain ⟨cs, h1, h2, h3⟩ := h.src
  by_cases h0 : l.length = 0
  · have hl : l = [] := List.eq_nil_of_length_eq_zero h0
    subst hl
    refine ⟨.slice none 0 0, H, fun s x y hH hx hy => ?_, List.prefix_refl _, .inl ⟨rfl, rfl⟩, .inl rfl⟩
    subst hH
    unfold appK
    rw [hx, hy, h1]
    rfl
  · refine ⟨.slice (some ⟨H.length, 0, some esz⟩) l.length (l.length * esz), H ++ [cs], fun s x y hH hx hy => ?_, List.prefix_append _ _, .inr ⟨H.length, 0, l.length * esz, cs, rfl, by simp, by omega, Nat.le_refl _, by unfold Ev.room at hb2; omega, fun i a hi => ?_⟩, .inr ⟨_, _, _, _, rfl, Nat.le_refl _⟩⟩
    · unfold appK
      rw [hx, hH, hy, h1]
      simp only
      rw [if_neg h0, if_pos ⟨hb, hb2⟩]
    · rw [Nat.zero_add]
      exact h3 i a hi

end
end Go.Proofs.Ytdplmjlbkaipiaa.Ev

/- slices.Sort of whole numbers, by its contract off the kit's shelf. -/
namespace Go.Proofs.Ytdplmjlbkaipiaa.Ev
set_option linter.all false
open Go

def isI : Value → Bool
  | .int .i64 _ => true
  | _ => false
def toI : Value → Int
  | .int _ n => n
  | _ => 0
theorem isI_eq {v : Value} (h : isI v = true) : v = .int .i64 (toI v) := by
  unfold isI at h
  split at h
  · rfl
  · cases h

def srt (l : List Int) : List Int := l.mergeSort fun x y => decide (x ≤ y)

def sortP (m : Md) (vs : List Value) (H : Hp) : Option (Value × Hp) :=
  match vs with
  | [.slice none 0 0] => some (.tuple #[], H)
  | [.slice (some ⟨id, off, some 1⟩) len cap] =>
    match H[id]? with
    | some o => if off + cap = o.length ∧ len ≤ cap ∧ m.wr id = true ∧ len < 4611686018427387904 ∧ ((o.drop off).take len).all isI = true then
        some (.tuple #[], H.set id (spl o off ((srt (((o.drop off).take len).map toI)).map (Value.int .i64)))) else none
    | none => none
  | _ => none

/-- What the shelf says of it. -/
structure SortOk (P : Program) (F : Nat) : Prop where
  fn : ∃ fn, P.funcs[F]? = some fn ∧ fn.body.isSome = true ∧ (fn.name == "runtime.NumGoroutine") = false
  run : ∀ (blk off cap : Nat) (zs : List Int) (w : World), Sort.Holds (Value.int .i64) w blk off zs.toArray → blk < w.heap.size → zs.length < 4611686018427387904 →
    Calls P F #[.slice (some ⟨blk, off, none⟩) zs.length cap] w fun e w' => e = .returned (.tuple #[]) ∧ ∃ n os, w' = Sort.grow (Sort.putRow (Value.int .i64) (Sort.ahead w n) blk off (zs.mergeSort fun x y => decide (x ≤ y)).toArray) os
  non : ∀ (p : Option Addr) (cap : Nat) (w : World), Calls P F #[.slice p 0 cap] w fun e w' => e = .returned (.tuple #[]) ∧ w' = w

theorem sortP_kp {m : Md} {vs : List Value} {H H' : Hp} {r : Value} (h : sortP m vs H = some (r, H')) : Kp m H H' := by
  unfold sortP at h
  split at h
  · cases h; exact Kp.refl _ _
  · split at h
    · rename_i id off len cap _ o ho
      split at h
      · rename_i hc
        cases h
        refine ⟨by simp, fun id' h1 h2 => ?_, fun _ id' o' hl ho' => ?_⟩
        · have : id ≠ id' := fun e => by subst e; rw [hc.2.2.1] at h1; cases h1
          rw [List.getElem?_set_ne this]
        · by_cases e : id = id'
          · subst e
            rw [List.getElem?_set_self hl] at ho'
            cases ho'
            refine ⟨o, ho, fun v hv => ?_⟩
            obtain ⟨j, hj⟩ := List.getElem?_of_mem hv
            rw [spl_get] at hj
            split at hj
            · split at hj
              · have := List.mem_of_getElem? hj
                obtain ⟨n, _, rfl⟩ := List.mem_map.1 this
                exact .inl rfl
              · cases hj
            · exact .inr (List.mem_of_getElem? hj)
          · rw [List.getElem?_set_ne e] at ho'
            exact ⟨o', ho', fun v hv => .inr hv⟩
      · cases h
    · cases h
  · cases h

theorem putRow_heap {w : World} {os : Array Obj} {n blk off : Nat} {a : Array Int} {ds : Array Value} {e : TypeId} {fr : Nat × Nat} (hb : w.heap[blk]? = some (.cells ds e fr)) :
    (Sort.grow (Sort.putRow (Value.int .i64) (Sort.ahead w n) blk off a) os).heap[blk]? = some (.cells (Sort.putCells (Value.int .i64) off a ds) e fr) := by
  have hl : blk < w.heap.size := (Array.getElem?_eq_some_iff.1 hb).1
  rw [Sort.heap_grow_old _ _ (by simpa [Sort.putRow, Sort.mapBlock, Sort.ahead] using hl)]
  simp only [Sort.putRow, Sort.mapBlock, Sort.ahead, Array.getElem?_modify, if_true, hb, Option.map_some, Sort.onCells]
theorem putRow_old {w : World} {os : Array Obj} {n blk off b : Nat} {a : Array Int} (hl : b < w.heap.size) (hb : blk ≠ b) :
    (Sort.grow (Sort.putRow (Value.int .i64) (Sort.ahead w n) blk off a) os).heap[b]? = w.heap[b]? := by
  rw [Sort.heap_grow_old _ _ (by simpa [Sort.putRow, Sort.mapBlock, Sort.ahead] using hl)]
  simp only [Sort.putRow, Sort.mapBlock, Sort.ahead, Array.getElem?_modify, if_neg hb]

theorem sortP_sound {P : Program} {B F : Nat} (hS : SortOk P F) {m : Md} {vs : List Value} {H H' : Hp} {r : Value} (h : sortP m vs H = some (r, H')) (hm : ∀ id, m.wr id = true → B ≤ id) {J : Inj} {w : World} {cs : Array Value} (hw : WRel B J H w) (hl : LRel J H vs cs.toList) :
    Calls P F cs w fun e w' => ∃ v J', e = .returned v ∧ Tr B w.heap.size J H w J' H' w' ∧ WRel B J' H' w' ∧ VRel J' H' r v := by
  obtain ⟨v, hv⟩ : ∃ v, vs = [v] := by
    unfold sortP at h
    split at h
    · exact ⟨_, rfl⟩
    · exact ⟨_, rfl⟩
    · cases h
  subst hv
  obtain ⟨c, hc, hvc⟩ := hl.get (i := 0) (x := v) rfl
  have hcs : cs = #[c] := by
    have h1 := hl.1
    apply Array.toList_inj.1
    cases hcl : cs.toList with
    | nil => rw [hcl] at h1; simp at h1
    | cons a t =>
      rw [hcl] at h1 hc
      simp at h1 hc
      subst hc
      simp [h1]
  subst hcs
  have tup : VRel J H' (.tuple #[]) (.tuple #[]) := .tup _ _ rfl (fun i x y hx => by simp at hx)
  unfold sortP at h
  split at h
  · rename_i heq
    cases h
    cases heq
    cases hvc
    exact (hS.non none 0 w).mono fun e w' ⟨h1, h2⟩ => by
      subst h2
      exact ⟨_, J, h1, Tr.refl _ _ _ _ _, hw, tup⟩
  · rename_i id off len cap heq
    cases heq
    split at h
    · rename_i o ho
      split at h
      · rename_i hcnd
        obtain ⟨hc1, hc2, hc3, hc4, hc5⟩ := hcnd
        cases h
        cases hvc with
        | sl _ _ _ _ _ o' a ccap ho' hg hll hcc hv =>
          rw [ho] at ho'
          cases ho'
          obtain ⟨l, hJ, hv⟩ := hv hc1
          obtain ⟨l', ds, e, lo, hi, hJ', hb, hsz, hlen, hcell, hfr⟩ := hw.row id o ho
          rw [hJ] at hJ'
          cases hJ'
          generalize hzs : ((o.drop off).take len).map toI = zs at *
          have hzl : zs.length = len := by subst hzs; simp; omega
          have hB := hm id hc3
          have hidl := (List.getElem?_eq_some_iff.1 ho).1
          have hget : ∀ j, j < len → o[off + j]? = some (.int .i64 zs[j]!) := fun j hj => by
            have h1 : off + j < o.length := by omega
            have h2 : ((o.drop off).take len)[j]? = some o[off + j] := by
              rw [List.getElem?_take, if_pos hj, List.getElem?_drop, List.getElem?_eq_getElem h1]
            have h3 : zs[j]! = toI o[off + j] := by
              subst hzs
              have h4 : (((o.drop off).take len).map toI)[j]? = some (toI o[off + j]) := by rw [List.getElem?_map, h2]; rfl
              rw [getElem!_def, h4]
            rw [List.all_eq_true] at hc5
            rw [List.getElem?_eq_getElem h1, h3, ← isI_eq (hc5 _ (List.mem_of_getElem? h2))]
          by_cases h0 : len = 0
          · subst h0
            have hz0 : zs = [] := List.eq_nil_of_length_eq_zero hzl
            subst hz0
            have : H.set id (spl o off ((srt []).map (Value.int .i64))) = H := by
              have e1 : srt [] = [] := by simp [srt]
              rw [e1]
              show H.set id o = H
              refine List.ext_getElem? fun j => ?_
              rw [List.getElem?_set]
              split
              · rename_i e; subst e; rw [ho]
              · rfl
            rw [this]
            exact (hS.non (some a) ccap w).mono fun e w' ⟨h1, h2⟩ => by
              subst h2
              exact ⟨_, J, h1, Tr.refl _ _ _ _ _, hw, .tup _ _ rfl (fun i x y hx => by simp at hx)⟩
          · rcases hv with ⟨hv, _⟩ | ⟨rfl, hv⟩
            · exact absurd hv h0
            have hbl : l.b < w.heap.size := (Array.getElem?_eq_some_iff.1 hb).1
            have hoff : off + len ≤ o.length := by omega
            have hHold : Sort.Holds (Value.int .i64) w l.b (l.sh + off) zs.toArray := fun j hj => by
              have hj' : j < len := by simpa [hzl] using hj
              obtain ⟨_, d, hd, hvr⟩ := hcell _ _ (hget j hj')
              have hd' : d = .int .i64 zs[j]! := by cases hvr; rfl
              subst hd'
              have hfro := hfr hB (l.sh + off + j) (by omega) (by omega)
              constructor
              · simp only [World.cell?, hb]
                rw [Nat.add_assoc, hd]
                simp
              · simp only [World.frozen?, hb]
                simp
                omega
            have := hS.run l.b (l.sh + off) ccap zs w hHold hbl (by omega)
            rw [hzl] at this
            refine this.mono fun e' w' ⟨h1, n, os, h2⟩ => ?_
            have hsl : (srt zs).length = len := by simp [srt, hzl]
            have hH : ∀ j, (H.set id (spl o off ((srt zs).map (Value.int .i64))))[j]? = if id = j then some (spl o off ((srt zs).map (Value.int .i64))) else H[j]? := fun j => by
              rw [List.getElem?_set]
              split
              · rfl
              · rfl
            have hkeep : Keep J H J (H.set id (spl o off ((srt zs).map (Value.int .i64)))) := fun id' o' ho' => by
              rw [hH]
              split
              · rename_i e; subst e
                rw [ho] at ho'
                cases ho'
                exact ⟨_, rfl, .inr ⟨by rw [spl_length], rfl⟩⟩
              · exact ⟨o', ho', .inr ⟨rfl, rfl⟩⟩
            have hsize : w.heap.size ≤ w'.heap.size := by
              subst h2
              simp [Sort.putRow, Sort.mapBlock, Sort.ahead]
            refine ⟨_, J, h1, ⟨hkeep, fun b hb hn => ?_, fun id' l' h => .inl ⟨l', h, rfl⟩, hsize, by subst h2; rfl, by subst h2; rfl, by subst h2; rfl⟩, ⟨fun id' o' ho' => ?_, hw.uni, fun id' hid' => hw.dom id' (by simpa using hid')⟩, .tup _ _ rfl (fun i x y hx => by simp at hx)⟩
            · subst h2
              exact putRow_old hb (hn id l hJ hB)
            · rw [hH] at ho'
              split at ho'
              · rename_i e2; subst e2
                cases ho'
                refine ⟨l, _, e, lo, hi, hJ, by subst h2; exact putRow_heap hb, by simp [Sort.putCells, hsz], by rw [spl_length]; exact hlen, fun i v hiv => ?_, hfr⟩
                rw [spl_get] at hiv
                have hil : i < o.length := by
                  split at hiv
                  · split at hiv
                    · have := (List.getElem?_eq_some_iff.1 hiv).1
                      simp [hsl] at this
                      omega
                    · cases hiv
                  · exact (List.getElem?_eq_some_iff.1 hiv).1
                obtain ⟨v0, hv0⟩ : ∃ v0, o[i]? = some v0 := ⟨_, List.getElem?_eq_getElem hil⟩
                obtain ⟨hone, d, hd, hvr⟩ := hcell _ _ hv0
                simp only [Sort.putCells, Array.getElem?_mapIdx, hd, Option.map_some, Option.some.injEq, exists_eq_left']
                by_cases hin : off ≤ i ∧ i < off + len
                · rw [if_pos (by simp [hsl]; omega)] at hiv
                  have hidx : (srt zs)[i - off]? = some (srt zs)[i - off]! := by
                    have hlt : i - off < (srt zs).length := by omega
                    rw [getElem!_pos (srt zs) (i - off) hlt, List.getElem?_eq_getElem hlt]
                  rw [List.getElem?_map, hidx] at hiv
                  simp only [Option.map_some] at hiv
                  have hv' : Value.int .i64 (srt zs)[i - off]! = v := by
                    simpa [hil] using hiv
                  subst hv'
                  rw [if_pos (by simp [hzl]; omega)]
                  have : l.sh + i - (l.sh + off) = i - off := by omega
                  rw [this]
                  refine ⟨rfl, ?_⟩
                  have e3 : (srt zs).toArray[i - off]! = (srt zs)[i - off]! := by
                    simp
                  show VRel _ _ _ (.int .i64 ((srt zs).toArray[i - off]!))
                  rw [e3]
                  exact .int _ _
                · have hiv' : o[i]? = some v := by
                    split at hiv
                    · rename_i hcc2
                      simp [hsl] at hcc2
                      omega
                    · exact hiv
                  rw [hv0] at hiv'
                  cases hiv'
                  rw [if_neg (by simp [hzl]; omega)]
                  exact ⟨hone, hvr.keep hkeep⟩
              · rename_i hne
                obtain ⟨l2, ds2, e2, lo2, hi2, q1, q2, q3, q4, q5, q6⟩ := hw.row id' o' ho'
                refine ⟨l2, ds2, e2, lo2, hi2, q1, ?_, q3, q4, fun i v hv => ⟨(q5 i v hv).1, ?_⟩, q6⟩
                · subst h2
                  rw [putRow_old (Array.getElem?_eq_some_iff.1 q2).1 (hw.uni id id' l l2 hne hB hJ q1), q2]
                · obtain ⟨_, d, hd, hvr⟩ := q5 i v hv
                  exact ⟨d, hd, hvr.keep hkeep⟩
      · cases h
    · cases h
  · cases h
end Go.Proofs.Ytdplmjlbkaipiaa.Ev

/- Functions that are told by themselves: the calls, and the law's row. -/
namespace Go.Proofs.Ytdplmjlbkaipiaa.Ev
set_option linter.all false
open Go RowKit

theorem Fun.prim {E : Env} {m : Md} {f : Nat} {vs : List Value} {H H' : Hp} {r : Value} {p : Md → List Value → Hp → Option (Value × Hp)} {Q : Value → Hp → Prop} (hp : E.prim f = some p) (h : p m vs H = some (r, H')) (hq : Q r H') : Fun E m f vs H Q :=
  ⟨1, r, H', by rw [evF, hp]; exact h, hq⟩

theorem Sl.sort {E : Env} {m : Md} {F : Nat} {H : Hp} {v : Value} {l : List Int} (hp : E.prim F = some sortP) (h : Sl (En eI) 1 H v l) (hle : l.length ≤ 1048576) (hw : ∀ id ∈ idsOf v, m.wr id = true) :
    Fun E m F [v] H fun r H' => r = .tuple #[] ∧ Sl (En eI) 1 H' v (srt l) ∧ (∀ j, j ∉ idsOf v → H'[j]? = H[j]?) ∧ H'.length = H.length := by
  rcases h with ⟨rfl, rfl⟩ | ⟨id, off, cap, o, rfl, ho, hc, hn, hrm, hr⟩
  · exact Fun.prim hp rfl ⟨rfl, .inl ⟨rfl, by simp [srt]⟩, fun _ _ => rfl, rfl⟩
  · have hget : ∀ i, (hi : i < l.length) → o[off + i]? = some (.int .i64 l[i]) := fun i hi => by
      have h1 := hr i l[i] (List.getElem?_eq_getElem hi)
      unfold En at h1
      simpa [eI] using getElem?_of_take h1 (j := 0) (by omega)
    have hcs : (o.drop off).take l.length = l.map (Value.int .i64) := by
      refine List.ext_getElem? fun j => ?_
      rw [List.getElem?_take, List.getElem?_map]
      split
      · rename_i hj
        rw [List.getElem?_drop, hget j hj, List.getElem?_eq_getElem hj]
        rfl
      · rename_i hj
        rw [List.getElem?_eq_none (by omega)]
        rfl
    have hz : ((o.drop off).take l.length).map toI = l := by
      rw [hcs, List.map_map]
      exact List.map_id l
    have hall : ((o.drop off).take l.length).all isI = true := by
      rw [hcs, List.all_map]
      exact List.all_eq_true.2 fun _ _ => rfl
    have hsl : (srt l).length = l.length := by simp [srt]
    have hidl := (List.getElem?_eq_some_iff.1 ho).1
    refine Fun.prim hp (r := .tuple #[]) (H' := H.set id (spl o off ((srt l).map (Value.int .i64)))) ?_ ⟨rfl, .inr ⟨id, off, cap, _, by rw [hsl], List.getElem?_set_self hidl, by rw [spl_length]; exact hc, by rw [hsl]; exact hn, by rw [hsl]; exact hrm, fun i a hi => ?_⟩, fun j hj => ?_, by simp⟩
    · unfold sortP
      simp only [ho]
      rw [if_pos ⟨hc, by omega, hw id (by simp [idsOf]), by omega, hall⟩, hz]
    · have hil : i < l.length := by rw [← hsl]; exact (List.getElem?_eq_some_iff.1 hi).1
      unfold En eI
      refine List.ext_getElem? fun j => ?_
      rw [take_drop_get]
      by_cases hj : j < 1
      · have : j = 0 := by omega
        subst this
        rw [if_pos hj, spl_get, if_pos (by simp [hsl]; omega), if_pos (by omega), List.getElem?_map, show off + i * 1 + 0 - off = i by omega, hi]
        rfl
      · rw [if_neg hj, List.getElem?_eq_none (by simp; omega)]
    · rw [List.getElem?_set_ne]
      simp [idsOf] at hj
      omega

/-- The law's row where slices.Sort stands by its contract. -/
theorem law_run_s {P : Program} {E : Env} {hv : Nat → Nat → Bool} {J : Inj} {M : Hp} {w : World} {vs : List Value} {cs : Array Value} {f F : Nat} (hmix : P.follows .mixedOrders = true) (hE : E.fns = fnsOf P hv) (hp : ∀ f p, E.prim f = some p → f = F ∧ p = sortP) (hS : SortOk P F) (hr : RdRel J M w) (hl : LRel J M vs cs.toList)
    (h : Fun E { wr := fun id => decide (M.length ≤ id), nr := false } f vs M fun r _ => r = .bool true) : Calls P f cs w fun e w' => e = .returned (.bool true) ∧ Below w.heap.size w w' := by
  obtain ⟨k, r, H', h1, rfl⟩ := h
  refine law_calls hmix hE (fun f p h => ?_) (fun f p h => ?_) h1 hr hl
  · obtain ⟨rfl, rfl⟩ := hp f p h
    intro m vs H r H' h2 hm hB
    exact ⟨hS.fn, fun J w cs hw hl => sortP_sound hS h2 hm hw hl⟩
  · obtain ⟨rfl, rfl⟩ := hp f p h
    exact fun m vs H r H' h2 => sortP_kp h2
end Go.Proofs.Ytdplmjlbkaipiaa.Ev

/- Numbers that rise: plain. -/
namespace Go.Proofs.Ytdplmjlbkaipiaa.Ev
set_option linter.all false
open Go

/-- Neighbours that are alike, once. -/
def cmpL : List Int → List Int
  | [] => []
  | [a] => [a]
  | a :: b :: t => if a = b then cmpL (b :: t) else a :: cmpL (b :: t)

theorem cmpL_snoc : ∀ (xs : List Int) (a b : Int), cmpL (xs ++ [a, b]) = if a = b then cmpL (xs ++ [a]) else cmpL (xs ++ [a]) ++ [b]
  | [], a, b => by
    by_cases h : a = b <;> simp [cmpL, h]
  | [x], a, b => by
    by_cases h : x = a <;> by_cases h2 : a = b <;> simp [cmpL, h, h2]
  | x :: y :: t, a, b => by
    have ih := cmpL_snoc (y :: t) a b
    simp only [List.cons_append] at ih ⊢
    by_cases h : x = y
    · rw [cmpL, if_pos h, cmpL, if_pos h, ih]
    · rw [cmpL, if_neg h, cmpL, if_neg h, ih]
      by_cases h2 : a = b
      · rw [if_pos h2, if_pos h2]
      · rw [if_neg h2, if_neg h2, List.cons_append]

/-- One more. -/
theorem cmpL_take {l : List Int} {k : Nat} (h : k + 1 < l.length) : cmpL (l.take (k + 2)) = if l[k] = l[k + 1] then cmpL (l.take (k + 1)) else cmpL (l.take (k + 1)) ++ [l[k + 1]] := by
  have e1 : l.take (k + 1) = l.take k ++ [l[k]] := by rw [List.take_succ_eq_append_getElem]
  have e2 : l.take (k + 2) = l.take k ++ [l[k], l[k + 1]] := by
    have h3 : l.take (k + 2) = l.take (k + 1) ++ [l[k + 1]] := by rw [show k + 2 = (k + 1) + 1 from rfl, List.take_succ_eq_append_getElem]
    rw [h3, e1, List.append_assoc]
    rfl
  rw [e2, cmpL_snoc, e1]

theorem cmpL_mem : ∀ (l : List Int) (x : Int), x ∈ cmpL l ↔ x ∈ l
  | [], x => by simp [cmpL]
  | [a], x => by simp [cmpL]
  | a :: b :: t, x => by
    have := cmpL_mem (b :: t) x
    rw [cmpL]
    split
    · rename_i h
      rw [this, h]
      simp
    · rw [List.mem_cons, this, List.mem_cons (a := x) (b := a)]

/-- Numbers that rise. -/
def Asc (l : List Int) : Prop := l.Pairwise (· < ·)

theorem cmpL_asc : ∀ (l : List Int), l.Pairwise (· ≤ ·) → Asc (cmpL l)
  | [], _ => by simp [cmpL, Asc]
  | [a], _ => by simp [cmpL, Asc]
  | a :: b :: t, h => by
    have h' := List.pairwise_cons.1 h
    have ih := cmpL_asc (b :: t) h'.2
    rw [cmpL]
    split
    · exact ih
    · rename_i hab
      refine List.pairwise_cons.2 ⟨fun x hx => ?_, ih⟩
      rw [cmpL_mem] at hx
      have h1 := h'.1 b (by simp)
      rcases List.mem_cons.1 hx with rfl | hx
      · omega
      · have := (List.pairwise_cons.1 h'.2).1 x hx
        omega

/-- Two rows of numbers that rise and hold the same are one. -/
theorem Asc.eq : ∀ {l k : List Int}, Asc l → Asc k → (∀ x, x ∈ l ↔ x ∈ k) → l = k
  | [], [], _, _, _ => rfl
  | [], b :: k, _, _, h => by have := (h b).2 (by simp); simp at this
  | a :: l, [], _, _, h => by have := (h a).1 (by simp); simp at this
  | a :: l, b :: k, hl, hk, h => by
    have hl := List.pairwise_cons.1 hl
    have hk := List.pairwise_cons.1 hk
    have hab : a = b := by
      have h1 := (h a).1 (by simp)
      have h2 := (h b).2 (by simp)
      rcases List.mem_cons.1 h1 with e | h1
      · exact e
      · rcases List.mem_cons.1 h2 with e | h2
        · exact e.symm
        · have := hk.1 a h1
          have := hl.1 b h2
          omega
    subst hab
    rw [Asc.eq hl.2 hk.2 fun x => ?_]
    have hx := h x
    constructor
    · intro hm
      rcases List.mem_cons.1 (hx.1 (List.mem_cons_of_mem _ hm)) with e | h2
      · have := hl.1 x hm
        omega
      · exact h2
    · intro hm
      rcases List.mem_cons.1 (hx.2 (List.mem_cons_of_mem _ hm)) with e | h2
      · have := hk.1 x hm
        omega
      · exact h2

theorem srt_sorted (l : List Int) : (srt l).Pairwise (· ≤ ·) := by
  have := List.pairwise_mergeSort (le := fun (x y : Int) => decide (x ≤ y)) (fun a b c h1 h2 => by simp at *; omega) (fun a b => by simp; omega) l
  exact this.imp fun h => by simpa using h
theorem srt_mem (l : List Int) (x : Int) : x ∈ srt l ↔ x ∈ l := by simp [srt]
theorem srt_len (l : List Int) : (srt l).length = l.length := by simp [srt]

/-- Sorted, each once. -/
def rsn (l : List Int) : List Int := cmpL (srt l)
theorem rsn_asc (l : List Int) : Asc (rsn l) := cmpL_asc _ (srt_sorted l)
theorem rsn_mem (l : List Int) (x : Int) : x ∈ rsn l ↔ x ∈ l := by rw [rsn, cmpL_mem, srt_mem]
end Go.Proofs.Ytdplmjlbkaipiaa.Ev

/- The seat's program on the small machine: which slots hold boxes of their own, which functions leave memory as it is. -/
namespace Go.Proofs.Ytdplmjlbkaipiaa.Ev
set_option linter.all false
open Go
def hvT : List (Nat × List Nat) := [(18, [4]), (24, [38, 68]), (25, [35, 66]), (29, [41]), (30, [39]), (31, [20]), (37, [25, 37]), (41, [4]), (43, [24]), (44, [5, 26]), (46, [60]), (48, [21]), (49, [20]), (50, [7, 75]), (51, [7, 68]), (56, [3]), (57, [1, 2, 3]), (59, [3]), (60, [2, 3]), (63, [11]), (64, [11, 44]), (65, [42]), (69, [5, 31, 41]), (71, [2]), (73, [1, 2, 3]), (79, [2, 3]), (81, [36]), (83, [6, 27, 40, 45, 60, 78]), (84, [3]), (93, [31, 38, 44])]
def hv (f t : Nat) : Bool := match hvT.find? (·.1 == f) with | some p => p.2.contains t | none => false
def trT : List Nat := [15, 16, 18, 19, 20, 22, 23, 28, 35, 36, 38, 39, 41, 42, 52, 55, 56, 57, 58, 59, 60, 61, 62, 64, 71, 72, 74, 75, 76, 77, 78, 79, 84, 85, 90, 91, 92]
noncomputable def EE : Env := { fns := fnsOf Go.Proofs.Try.prog hv, prim := fun f => if f = 87 then some sortP else none, pw := fun _ => false, tr := fun f => trT.contains f }
end Go.Proofs.Ytdplmjlbkaipiaa.Ev

/- Code of the program's functions, as the small machine has it: written by mkcode.py. -/
namespace Go.Proofs.Ytdplmjlbkaipiaa.Ev
set_option linter.all false
open Go
def c3 : CF := ⟨27, (.seq (.reg false [⟨(some 2), .none, (.mov (.c (.bool false))), 0, []⟩]) (.seq (.reg false [⟨(some 3), .none, (.mov (.c (.int .i64 1048576))), 0, []⟩]) (.seq (.reg false [⟨(some 7), .none, (.mov (.t 0)), 0, []⟩, ⟨(some 8), .none, (.mov (.t 3)), 1, []⟩, ⟨(some 9), .none, (.call 15 [(.t 7), (.t 8)]), 2, []⟩, ⟨(some 3), .none, (.mov (.t 9)), 3, []⟩]) (.seq (.seq (.reg false [⟨(some 10), .none, (.mov (.t 3)), 0, []⟩, ⟨(some 11), .none, (.bin .lss (.t 10) (.c (.int .i64 0))), 1, []⟩]) (.cond (.t 11) (.seq (.reg false [⟨(some 2), .none, (.mov (.c (.bool true))), 0, []⟩]) .ret) .skip)) (.seq (.reg false [⟨(some 12), .none, (.mov (.t 0)), 0, []⟩, ⟨(some 13), .none, (.call 17 [(.t 12)]), 1, []⟩, ⟨(some 14), .none, (.call 16 [(.t 13)]), 2, []⟩, ⟨(some 4), .none, (.mov (.t 14)), 3, []⟩]) (.seq (.reg false [⟨(some 15), .none, (.mov (.t 0)), 0, []⟩, ⟨(some 16), .none, (.call 17 [(.t 15)]), 1, []⟩, ⟨(some 5), .none, (.mov (.t 16)), 2, []⟩]) (.seq (.reg false [⟨(some 17), .none, (.mov (.t 5)), 0, []⟩, ⟨(some 18), .none, (.call 18 [(.t 17)]), 1, []⟩, ⟨(some 6), .none, (.mov (.t 18)), 2, []⟩]) (.seq (.seq (.reg false [⟨(some 19), .none, (.mov (.t 6)), 0, []⟩, ⟨(some 20), .none, (.mov (.t 4)), 1, []⟩, ⟨(some 21), .none, (.beq true (.t 19) (.t 20)), 2, []⟩]) (.cond (.t 21) (.seq (.reg false [⟨(some 2), .none, (.mov (.c (.bool false))), 0, []⟩]) .ret) .skip)) (.seq (.seq (.reg false [⟨(some 22), .none, (.mov (.t 5)), 0, []⟩, ⟨(some 23), .none, (.mov (.t 0)), 1, []⟩, ⟨(some 24), .none, (.call 17 [(.t 23)]), 2, []⟩, ⟨(some 25), .none, (.call 19 [(.t 22), (.t 24)]), 3, []⟩, ⟨(some 26), .none, (.un .not (.t 25)), 4, []⟩]) (.cond (.t 26) (.seq (.reg false [⟨(some 2), .none, (.mov (.c (.bool false))), 0, []⟩]) .ret) .skip)) (.seq (.reg false [⟨(some 2), .none, (.mov (.c (.bool true))), 0, []⟩]) .ret)))))))))), [(.t 2)]⟩
theorem k3 : EE.fns 3 = some c3 := by kernel_rfl
def c78 : CF := ⟨15, (.seq (.reg false [⟨(some 6), .none, (.mov (.c (.bool false))), 0, []⟩]) (.seq (.reg false [⟨(some 7), .none, (.mov (.t 0)), 0, []⟩, ⟨(some 8), .none, (.mov (.t 1)), 1, []⟩, ⟨(some 9), .none, (.bin .geq (.t 7) (.t 8)), 2, []⟩, ⟨(some 10), .none, (.mov (.t 9)), 3, []⟩, ⟨(some 11), (.some (10, true)), (.mov (.t 0)), 4, []⟩, ⟨(some 12), (.some (10, true)), (.mov (.t 2)), 5, []⟩, ⟨(some 13), (.some (10, true)), (.bin .leq (.t 11) (.t 12)), 6, []⟩, ⟨(some 14), .none, (.pick (.t 10) (.t 13) (.c (.bool false))), 7, []⟩, ⟨(some 6), .none, (.mov (.t 14)), 8, []⟩]) .ret)), [(.t 6)]⟩
theorem k78 : EE.fns 78 = some c78 := by kernel_rfl
end Go.Proofs.Ytdplmjlbkaipiaa.Ev

/- Ways between realms: the small functions. -/
namespace Go.Proofs.Ytdplmjlbkaipiaa.Ev
set_option linter.all false
open Go
set_option maxRecDepth 4000

abbrev Hop := Int × Int
def inR (r : Int) : Bool := decide (0 ≤ r) && decide (r < 8)

theorem f78 {H : Hp} {a b c : Int} : Scal EE 78 [.int .i64 a, .int .i64 b, .int .i64 c] H (.bool (decide (a ≥ b) && decide (a ≤ c))) := by
  refine scal_ok rfl rfl k78 (by simp [c78]) rfl fun m hw => ?_
  simp only [go_nil, go_blk, go_skip, go_ret, go_exit, go_seq, go_block, go_reg, go_r0, go_r, go_d0, go_d, go_cond, go_o, go_g, aft_some, cnd_bool, grd_bool, grd_tup, brT_true, brT_false, brT_not, thr_exit, thr_c, thr_nil, stp, stepK, movK, mv1, ex, exv, exvs, upd_some, upd_none, ini, St.val, binK, binV, ofV, pickK, unK, unV, beqK, beq_true, beq_false, if_true, if_false, List.getElem?_cons_zero, List.getElem?_cons_succ, ↓reduceIte, Nat.reduceEqDiff, reduceCtorEq, loadK, adr, deref, Ad.fv, Ad.live, fadrK, List.length_cons, List.length_nil, List.drop_zero, List.drop_succ_cons, List.take_succ_cons, List.take_zero, Nat.reduceAdd, Nat.reduceLeDiff, Nat.zero_add, Nat.add_zero, aeqK, agEq, scEq, boxVK, newVK, exc, vc_agg, vc_int, vc_bool, vc_str, vc_ptr, vc_sl, vc_fn, boxOf, adInf, List.reverse_cons, List.reverse_nil, List.nil_append, List.cons_append, extK, Bool.and_true, Bool.true_and, Bool.not_true, Bool.not_false, resT, resVs, resV, true_and, and_true, storeK, spl_nil, spl_z, spl_1, spl_2, spl_3, spl_4, spl_5, spl_6, spl_7, spl_8, scal_int, scal_bool, scal_str, scal_nil, implies_true, Bool.and_self, Post_ret, Post_normal, PostS_ret, PostS_normal, retT_true, retT_false, flat_bool, flat_int, flat_str, List.take_length, decide_true, decide_false, Option.some.injEq, Value.bool.injEq, Value.int.injEq, Bool.false_and, Bool.and_false, not_false_eq_true, not_true_eq_false, toIntK, List.length_set, Nat.reduceMul, Bool.not_eq_true, Bool.not_eq_false, List.all_cons, List.all_nil, exps, fillL, buildK, strK, nilcK, fnK, callVT, List.size_toArray, List.append_nil, List.singleton_append, boxOK, newOK, scal_nil, List.isEmpty_nil, List.isEmpty_cons, mkVK, mkOK, mkCells, zeros_0, zeros_1, zeros_2, zeros_3, zeros_4, List.map_cons, List.map_nil, c78]
  refine brT.intro (fun h1 => ?_) (fun h1 => ?_) <;> simp only [go_nil, go_blk, go_skip, go_ret, go_exit, go_seq, go_block, go_reg, go_r0, go_r, go_d0, go_d, go_cond, go_o, go_g, aft_some, cnd_bool, grd_bool, grd_tup, brT_true, brT_false, brT_not, thr_exit, thr_c, thr_nil, stp, stepK, movK, mv1, ex, exv, exvs, upd_some, upd_none, ini, St.val, binK, binV, ofV, pickK, unK, unV, beqK, beq_true, beq_false, if_true, if_false, List.getElem?_cons_zero, List.getElem?_cons_succ, ↓reduceIte, Nat.reduceEqDiff, reduceCtorEq, loadK, adr, deref, Ad.fv, Ad.live, fadrK, List.length_cons, List.length_nil, List.drop_zero, List.drop_succ_cons, List.take_succ_cons, List.take_zero, Nat.reduceAdd, Nat.reduceLeDiff, Nat.zero_add, Nat.add_zero, aeqK, agEq, scEq, boxVK, newVK, exc, vc_agg, vc_int, vc_bool, vc_str, vc_ptr, vc_sl, vc_fn, boxOf, adInf, List.reverse_cons, List.reverse_nil, List.nil_append, List.cons_append, extK, Bool.and_true, Bool.true_and, Bool.not_true, Bool.not_false, resT, resVs, resV, true_and, and_true, storeK, spl_nil, spl_z, spl_1, spl_2, spl_3, spl_4, spl_5, spl_6, spl_7, spl_8, scal_int, scal_bool, scal_str, scal_nil, implies_true, Bool.and_self, Post_ret, Post_normal, PostS_ret, PostS_normal, retT_true, retT_false, flat_bool, flat_int, flat_str, List.take_length, decide_true, decide_false, Option.some.injEq, Value.bool.injEq, Value.int.injEq, Bool.false_and, Bool.and_false, not_false_eq_true, not_true_eq_false, toIntK, List.length_set, Nat.reduceMul, Bool.not_eq_true, Bool.not_eq_false, List.all_cons, List.all_nil, exps, fillL, buildK, strK, nilcK, fnK, callVT, List.size_toArray, List.append_nil, List.singleton_append, boxOK, newOK, scal_nil, List.isEmpty_nil, List.isEmpty_cons, mkVK, mkOK, mkCells, zeros_0, zeros_1, zeros_2, zeros_3, zeros_4, List.map_cons, List.map_nil, h1]
theorem c78' {m : Md} {draw : Bool} {s : St} {d : Option Nat} {ts : List Tk} {Q : Ex → St → Prop} {a b c : Int} (hw : Wr m s.H) :
    callT EE m draw 78 (some [.int .i64 a, .int .i64 b, .int .i64 c]) s d ts Q = go EE m ts { s with ρ := upd s.ρ d (.val (.bool (decide (a ≥ b) && decide (a ≤ c)))) } Q := callT_at f78 rfl hw

theorem notin_succ {α : Type} {l : List α} {h : α} {i : Nat} (hi : i < l.length) (h1 : h ∉ l.take i) (h2 : l[i] ≠ h) : h ∉ l.take (i + 1) := by
  intro hm
  rw [List.take_succ_eq_append_getElem hi] at hm
  rcases List.mem_append.1 hm with a | a
  · exact h1 a
  · exact h2 (List.mem_singleton.1 a).symm

noncomputable def idxI {α : Type} [DecidableEq α] (l : List α) (h : α) : Int := if h ∈ l then (l.findIdx fun x => decide (x = h)) else -1
theorem idxI_nonneg {α : Type} [DecidableEq α] {l : List α} {h : α} : 0 ≤ idxI l h ↔ h ∈ l := by
  unfold idxI
  split <;> simp_all
theorem idxI_at {α : Type} [DecidableEq α] {l : List α} {h : α} {i : Nat} (hi : i < l.length) (h1 : h ∉ l.take i) (h2 : l[i] = h) : idxI l h = i := by
  unfold idxI
  rw [if_pos (h2 ▸ List.getElem_mem hi)]
  congr 1
  rw [List.findIdx_eq hi]
  refine ⟨by simp [h2], fun j hj => ?_⟩
  have hjl : j < l.length := by omega
  simp only [decide_eq_false_iff_not]
  rintro rfl
  exact h1 (List.mem_take_iff_getElem.2 ⟨j, by omega, rfl⟩)

end Go.Proofs.Ytdplmjlbkaipiaa.Ev

/- The types of the laws' parameters. -/
namespace Go.Proofs.Ytdplmjlbkaipiaa.Ev
set_option linter.all false
open Go
set_option maxRecDepth 100000
theorem bI : Bld Try.prog 3 1 (fun _ (n : Int) vs => vs = [.int .i64 n]) (fun n => (Lit.int .i64 n).wf = true) := Bld.int Try.underlying3 (by kernel_rfl)
end Go.Proofs.Ytdplmjlbkaipiaa.Ev

/- Code of the program's functions, as the small machine has it: written by mkcode.py. -/
namespace Go.Proofs.Ytdplmjlbkaipiaa.Ev
set_option linter.all false
open Go
def c4 : CF := ⟨59, (.seq (.reg false [⟨(some 6), .none, (.mov (.c (.bool false))), 0, []⟩]) (.seq (.seq (.reg false [⟨(some 13), .none, (.mov (.t 1)), 0, []⟩, ⟨(some 14), .none, (.lenS (.t 13)), 1, []⟩, ⟨(some 15), .none, (.bin .gtr (.t 14) (.c (.int .i64 1048576))), 2, []⟩]) (.cond (.t 15) (.seq (.reg false [⟨(some 6), .none, (.mov (.c (.bool true))), 0, []⟩]) .ret) .skip)) (.seq (.seq (.reg false [⟨(some 16), .none, (.mov (.t 2)), 0, []⟩, ⟨(some 17), .none, (.lenS (.t 16)), 1, []⟩, ⟨(some 18), .none, (.bin .gtr (.t 17) (.c (.int .i64 1048576))), 2, []⟩]) (.cond (.t 18) (.seq (.reg false [⟨(some 6), .none, (.mov (.c (.bool true))), 0, []⟩]) .ret) .skip)) (.seq (.reg false [⟨(some 7), .none, (.mov (.c (.int .i64 1048576))), 0, []⟩]) (.seq (.reg false [⟨(some 19), .none, (.mov (.t 0)), 0, []⟩, ⟨(some 20), .none, (.mov (.t 7)), 1, []⟩, ⟨(some 21), .none, (.call 15 [(.t 19), (.t 20)]), 2, []⟩, ⟨(some 7), .none, (.mov (.t 21)), 3, []⟩]) (.seq (.seq (.reg false [⟨(some 22), .none, (.mov (.t 7)), 0, []⟩, ⟨(some 23), .none, (.bin .lss (.t 22) (.c (.int .i64 0))), 1, []⟩]) (.cond (.t 23) (.seq (.reg false [⟨(some 6), .none, (.mov (.c (.bool true))), 0, []⟩]) .ret) .skip)) (.seq (.reg false [⟨(some 24), .none, (.mov (.t 0)), 0, []⟩, ⟨(some 25), .none, (.call 17 [(.t 24)]), 1, []⟩, ⟨(some 26), .none, (.mov (.t 1)), 2, []⟩, ⟨(some 27), .none, (.call 21 [(.t 26)]), 3, []⟩, ⟨(some 28), .none, (.mov (.t 2)), 4, []⟩, ⟨(some 29), .none, (.call 21 [(.t 28)]), 5, []⟩, ⟨(some 30), .none, (.call 20 [(.t 25), (.t 27), (.t 29)]), 6, []⟩, ⟨(some 8), .none, (.mov (.t 30)), 7, []⟩]) (.seq (.reg false [⟨(some 31), .none, (.mov (.t 0)), 0, []⟩, ⟨(some 32), .none, (.call 17 [(.t 31)]), 1, []⟩, ⟨(some 9), .none, (.mov (.t 32)), 2, []⟩]) (.seq (.reg false [⟨(some 33), .none, (.mov (.t 1)), 0, []⟩, ⟨(some 34), .none, (.call 21 [(.t 33)]), 1, []⟩, ⟨(some 10), .none, (.mov (.t 34)), 2, []⟩]) (.seq (.reg false [⟨(some 35), .none, (.mov (.t 2)), 0, []⟩, ⟨(some 36), .none, (.call 21 [(.t 35)]), 1, []⟩, ⟨(some 11), .none, (.mov (.t 36)), 2, []⟩]) (.seq (.reg false [⟨(some 37), .none, (.mov (.t 9)), 0, []⟩, ⟨(some 38), .none, (.mov (.t 10)), 1, []⟩, ⟨(some 39), .none, (.mov (.t 11)), 2, []⟩, ⟨(some 40), .none, (.call 22 [(.t 37), (.t 38), (.t 39)]), 3, []⟩, ⟨(some 12), .none, (.mov (.t 40)), 4, []⟩]) (.seq (.seq (.reg false [⟨(some 41), .none, (.mov (.t 12)), 0, []⟩, ⟨(some 42), .none, (.mov (.t 8)), 1, []⟩, ⟨(some 43), .none, (.beq true (.t 41) (.t 42)), 2, []⟩]) (.cond (.t 43) (.seq (.reg false [⟨(some 6), .none, (.mov (.c (.bool false))), 0, []⟩]) .ret) .skip)) (.seq (.seq (.reg false [⟨(some 44), .none, (.mov (.t 9)), 0, []⟩, ⟨(some 45), .none, (.mov (.t 0)), 1, []⟩, ⟨(some 46), .none, (.call 17 [(.t 45)]), 2, []⟩, ⟨(some 47), .none, (.call 19 [(.t 44), (.t 46)]), 3, []⟩, ⟨(some 48), .none, (.un .not (.t 47)), 4, []⟩]) (.cond (.t 48) (.seq (.reg false [⟨(some 6), .none, (.mov (.c (.bool false))), 0, []⟩]) .ret) .skip)) (.seq (.seq (.reg false [⟨(some 49), .none, (.mov (.t 10)), 0, []⟩, ⟨(some 50), .none, (.mov (.t 1)), 1, []⟩, ⟨(some 51), .none, (.call 21 [(.t 50)]), 2, []⟩, ⟨(some 52), .none, (.call 23 [(.t 49), (.t 51)]), 3, []⟩, ⟨(some 53), .none, (.un .not (.t 52)), 4, []⟩]) (.cond (.t 53) (.seq (.reg false [⟨(some 6), .none, (.mov (.c (.bool false))), 0, []⟩]) .ret) .skip)) (.seq (.seq (.reg false [⟨(some 54), .none, (.mov (.t 11)), 0, []⟩, ⟨(some 55), .none, (.mov (.t 2)), 1, []⟩, ⟨(some 56), .none, (.call 21 [(.t 55)]), 2, []⟩, ⟨(some 57), .none, (.call 23 [(.t 54), (.t 56)]), 3, []⟩, ⟨(some 58), .none, (.un .not (.t 57)), 4, []⟩]) (.cond (.t 58) (.seq (.reg false [⟨(some 6), .none, (.mov (.c (.bool false))), 0, []⟩]) .ret) .skip)) (.seq (.reg false [⟨(some 6), .none, (.mov (.c (.bool true))), 0, []⟩]) .ret)))))))))))))))), [(.t 6)]⟩
theorem k4 : EE.fns 4 = some c4 := by kernel_rfl
def c21 : CF := ⟨22, (.seq (.reg false [⟨(some 2), .none, (.mov (.c (.slice .none 0 0))), 0, []⟩]) (.seq (.reg false [⟨(some 5), .none, (.mov (.t 0)), 0, []⟩, ⟨(some 6), .none, (.lenS (.t 5)), 1, []⟩, ⟨(some 7), .none, (.makeS 1 8 [(.int .i64 0)] (.t 6) (.t 6)), 2, []⟩, ⟨(some 3), .none, (.mov (.t 7)), 3, []⟩]) (.seq (.seq (.reg false [⟨(some 4), .none, (.mov (.c (.int .i64 0))), 0, []⟩]) (.block 0 (.loop (.seq (.seq (.reg false [⟨(some 8), .none, (.mov (.t 4)), 0, []⟩, ⟨(some 9), .none, (.mov (.t 0)), 1, []⟩, ⟨(some 10), .none, (.lenS (.t 9)), 2, []⟩, ⟨(some 11), .none, (.bin .lss (.t 8) (.t 10)), 3, []⟩]) (.cond (.t 11) .skip (.exit 0))) (.seq (.block 1 (.reg false [⟨(some 14), .none, (.mov (.t 3)), 0, []⟩, ⟨(some 15), .none, (.mov (.t 4)), 1, []⟩, ⟨(some 16), .none, (.mov (.t 0)), 2, []⟩, ⟨(some 17), .none, (.mov (.t 4)), 3, []⟩, ⟨(some 18), .none, (.iadr 1 (.t 16) (.t 17)), 4, []⟩, ⟨(some 19), .none, (.load 1 false (.t 18)), 5, []⟩, ⟨(some 20), .none, (.iadr 1 (.t 14) (.t 15)), 6, []⟩, ⟨.none, .none, (.store 1 (.t 20) (.t 19)), 7, []⟩])) (.reg false [⟨(some 12), .none, (.mov (.t 4)), 0, []⟩, ⟨(some 13), .none, (.bin .add (.t 12) (.c (.int .i64 1))), 1, []⟩, ⟨(some 4), .none, (.mov (.t 13)), 2, []⟩])))))) (.seq (.reg false [⟨(some 21), .none, (.mov (.t 3)), 0, []⟩, ⟨(some 2), .none, (.mov (.t 21)), 1, []⟩]) .ret)))), [(.t 2)]⟩
theorem k21 : EE.fns 21 = some c21 := by kernel_rfl
def c23 : CF := ⟨26, (.seq (.reg false [⟨(some 4), .none, (.mov (.c (.bool false))), 0, []⟩]) (.seq (.seq (.reg false [⟨(some 6), .none, (.mov (.t 0)), 0, []⟩, ⟨(some 7), .none, (.lenS (.t 6)), 1, []⟩, ⟨(some 8), .none, (.mov (.t 1)), 2, []⟩, ⟨(some 9), .none, (.lenS (.t 8)), 3, []⟩, ⟨(some 10), .none, (.bin .neq (.t 7) (.t 9)), 4, []⟩]) (.cond (.t 10) (.seq (.reg false [⟨(some 4), .none, (.mov (.c (.bool false))), 0, []⟩]) .ret) .skip)) (.seq (.seq (.reg false [⟨(some 5), .none, (.mov (.c (.int .i64 0))), 0, []⟩]) (.block 0 (.loop (.seq (.seq (.reg false [⟨(some 11), .none, (.mov (.t 5)), 0, []⟩, ⟨(some 12), .none, (.mov (.t 0)), 1, []⟩, ⟨(some 13), .none, (.lenS (.t 12)), 2, []⟩, ⟨(some 14), .none, (.bin .lss (.t 11) (.t 13)), 3, []⟩]) (.cond (.t 14) .skip (.exit 0))) (.seq (.block 1 (.seq (.reg true [⟨(some 17), .none, (.mov (.t 0)), 0, []⟩, ⟨(some 18), .none, (.mov (.t 5)), 1, []⟩, ⟨(some 19), .none, (.iadr 1 (.t 17) (.t 18)), 2, [0, 1]⟩, ⟨(some 20), .none, (.load 1 false (.t 19)), 3, [2, 0, 1]⟩, ⟨(some 21), .none, (.mov (.t 1)), 4, []⟩, ⟨(some 22), .none, (.mov (.t 5)), 5, []⟩, ⟨(some 23), .none, (.iadr 1 (.t 21) (.t 22)), 6, [4, 5]⟩, ⟨(some 24), .none, (.load 1 false (.t 23)), 7, [6, 4, 5]⟩, ⟨(some 25), .none, (.bin .neq (.t 20) (.t 24)), 8, [3, 2, 0, 1, 7, 6, 4, 5]⟩]) (.cond (.t 25) (.seq (.reg false [⟨(some 4), .none, (.mov (.c (.bool false))), 0, []⟩]) .ret) .skip))) (.reg false [⟨(some 15), .none, (.mov (.t 5)), 0, []⟩, ⟨(some 16), .none, (.bin .add (.t 15) (.c (.int .i64 1))), 1, []⟩, ⟨(some 5), .none, (.mov (.t 16)), 2, []⟩])))))) (.seq (.reg false [⟨(some 4), .none, (.mov (.c (.bool true))), 0, []⟩]) .ret)))), [(.t 4)]⟩
theorem k23 : EE.fns 23 = some c23 := by kernel_rfl
def c61 : CF := ⟨18, (.seq (.reg false [⟨(some 4), .none, (.mov (.c (.bool false))), 0, []⟩]) (.seq (.seq (.reg false [⟨(some 5), .none, (.mov (.c (.int .i64 0))), 0, []⟩]) (.block 0 (.loop (.seq (.seq (.reg false [⟨(some 6), .none, (.mov (.t 5)), 0, []⟩, ⟨(some 7), .none, (.mov (.t 0)), 1, []⟩, ⟨(some 8), .none, (.lenS (.t 7)), 2, []⟩, ⟨(some 9), .none, (.bin .lss (.t 6) (.t 8)), 3, []⟩]) (.cond (.t 9) .skip (.exit 0))) (.seq (.block 1 (.seq (.reg false [⟨(some 12), .none, (.mov (.t 0)), 0, []⟩, ⟨(some 13), .none, (.mov (.t 5)), 1, []⟩, ⟨(some 14), .none, (.iadr 1 (.t 12) (.t 13)), 2, []⟩, ⟨(some 15), .none, (.load 1 false (.t 14)), 3, []⟩, ⟨(some 16), .none, (.mov (.t 1)), 4, []⟩, ⟨(some 17), .none, (.bin .eql (.t 15) (.t 16)), 5, []⟩]) (.cond (.t 17) (.seq (.reg false [⟨(some 4), .none, (.mov (.c (.bool true))), 0, []⟩]) .ret) .skip))) (.reg false [⟨(some 10), .none, (.mov (.t 5)), 0, []⟩, ⟨(some 11), .none, (.bin .add (.t 10) (.c (.int .i64 1))), 1, []⟩, ⟨(some 5), .none, (.mov (.t 11)), 2, []⟩])))))) (.seq (.reg false [⟨(some 4), .none, (.mov (.c (.bool false))), 0, []⟩]) .ret))), [(.t 4)]⟩
theorem k61 : EE.fns 61 = some c61 := by kernel_rfl
def c62 : CF := ⟨9, (.seq (.reg false [⟨(some 4), .none, (.mov (.c (.bool false))), 0, []⟩]) (.seq (.reg false [⟨(some 5), .none, (.mov (.t 0)), 0, []⟩, ⟨(some 6), .none, (.mov (.t 1)), 1, []⟩, ⟨(some 7), .none, (.call 85 [(.t 5), (.t 6)]), 2, []⟩, ⟨(some 8), .none, (.bin .geq (.t 7) (.c (.int .i64 0))), 3, []⟩, ⟨(some 4), .none, (.mov (.t 8)), 4, []⟩]) .ret)), [(.t 4)]⟩
theorem k62 : EE.fns 62 = some c62 := by kernel_rfl
def c85 : CF := ⟨19, (.seq (.reg false [⟨(some 4), .none, (.mov (.c (.int .i64 0))), 0, []⟩]) (.seq (.seq (.reg false [⟨(some 6), .none, (.mov (.t 0)), 0, []⟩, ⟨(some 7), .none, (.lenS (.t 6)), 1, []⟩, ⟨(some 8), .none, (.mov (.c (.int .i64 0))), 2, []⟩]) (.block 0 (.loop (.seq (.reg false [⟨(some 9), .none, (.bin .lss (.t 8) (.t 7)), 0, []⟩]) (.seq (.cond (.t 9) .skip (.exit 0)) (.seq (.block 1 (.seq (.reg false [⟨(some 10), .none, (.mov (.t 8)), 0, []⟩, ⟨(some 5), .none, (.mov (.t 10)), 1, []⟩]) (.seq (.reg false [⟨(some 11), .none, (.mov (.t 1)), 0, []⟩, ⟨(some 12), .none, (.mov (.t 0)), 1, []⟩, ⟨(some 13), .none, (.mov (.t 5)), 2, []⟩, ⟨(some 14), .none, (.iadr 1 (.t 12) (.t 13)), 3, []⟩, ⟨(some 15), .none, (.load 1 false (.t 14)), 4, []⟩, ⟨(some 16), .none, (.bin .eql (.t 11) (.t 15)), 5, []⟩]) (.cond (.t 16) (.seq (.reg false [⟨(some 17), .none, (.mov (.t 5)), 0, []⟩, ⟨(some 4), .none, (.mov (.t 17)), 1, []⟩]) .ret) .skip)))) (.reg false [⟨(some 18), .none, (.bin .add (.t 8) (.c (.int .i64 1))), 0, []⟩, ⟨(some 8), .none, (.mov (.t 18)), 1, []⟩]))))))) (.seq (.reg false [⟨(some 4), .none, (.mov (.c (.int .i64 (-1)))), 0, []⟩]) .ret))), [(.t 4)]⟩
theorem k85 : EE.fns 85 = some c85 := by kernel_rfl
def c90 : CF := ⟨12, (.seq (.reg false [⟨(some 4), .none, (.mov (.c (.int .i64 0))), 0, []⟩]) (.seq (.reg false [⟨(some 5), .none, (.mov (.t 1)), 0, []⟩, ⟨(some 6), .none, (.mov (.t 0)), 1, []⟩, ⟨(some 7), .none, (.lenS (.t 6)), 2, []⟩, ⟨(some 8), .none, (.bin .sub (.t 5) (.t 7)), 3, []⟩, ⟨(some 1), .none, (.mov (.t 8)), 4, []⟩]) (.seq (.seq (.reg false [⟨(some 9), .none, (.mov (.t 1)), 0, []⟩, ⟨(some 10), .none, (.bin .lss (.t 9) (.c (.int .i64 0))), 1, []⟩]) (.cond (.t 10) (.seq (.reg false [⟨(some 4), .none, (.mov (.c (.int .i64 (-1)))), 0, []⟩]) .ret) .skip)) (.seq (.reg false [⟨(some 11), .none, (.mov (.t 1)), 0, []⟩, ⟨(some 4), .none, (.mov (.t 11)), 1, []⟩]) .ret)))), [(.t 4)]⟩
theorem k90 : EE.fns 90 = some c90 := by kernel_rfl
end Go.Proofs.Ytdplmjlbkaipiaa.Ev

/- Ways between realms: rows of hops, what is told of them. -/
namespace Go.Proofs.Ytdplmjlbkaipiaa.Ev
set_option linter.all false
open Go
set_option maxRecDepth 4000

def szI (n : Nat) (left : Int) : Int := if left - n < 0 then -1 else left - n

/-- A fresh slice of numbers and the like. -/
def FreshS {α : Type} (enc : α → List Value) (esz : Nat) (H : Hp) (v : Value) (H' : Hp) (l : List α) : Prop := H <+: H' ∧ Sl (En enc) esz H' v l ∧ OwnS H.length v

end Go.Proofs.Ytdplmjlbkaipiaa.Ev

/- Rows of numbers. -/
namespace Go.Proofs.Ytdplmjlbkaipiaa.Ev
set_option linter.all false
open Go
set_option maxRecDepth 4000

abbrev SlI (H : Hp) (v : Value) (l : List Int) : Prop := Sl (En eI) 1 H v l

theorem Sl.int {H : Hp} {v : Value} {l : List Int} (h : SlI H v l) {i : Nat} {a : Int} (hi : l[i]? = some a) : ∃ id p o, H[id]? = some o ∧ o[p]? = some (.int .i64 a) ∧
    ∀ (s : St) (x y : X), exv s.ρ x = some v → exv s.ρ y = some (.int .i64 i) → iadrK s 1 x y = some (.val (.pointer (some ⟨id, p, some o.length⟩)), s) := by
  obtain ⟨id, p, o, ho, hr, hp, hia⟩ := h.elem hi
  unfold En at hr
  exact ⟨id, p, o, ho, by simpa [eI] using getElem?_of_take hr (j := 0) (by omega), hia⟩

theorem f90 {H : Hp} {v : Value} {l : List Int} {left : Int} (hl : SlI H v l) (h0 : 0 ≤ left) (h1 : left ≤ 1048576) : Scal EE 90 [v, .int .i64 left] H (.int .i64 (szI l.length left)) := by
  refine scal_ok rfl rfl k90 (by simp [c90]) rfl fun m hw => ?_
  have hroom := hl.room
  simp only [go_nil, go_blk, go_skip, go_ret, go_exit, go_seq, go_block, go_reg, go_r0, go_r, go_d0, go_d, go_cond, go_o, go_g, aft_some, cnd_bool, grd_bool, grd_tup, brT_true, brT_false, brT_not, thr_exit, thr_c, thr_nil, stp, stepK, movK, mv1, ex, exv, exvs, upd_some, upd_none, ini, St.val, binK, binV, ofV, pickK, unK, unV, beqK, beq_true, beq_false, if_true, if_false, List.getElem?_cons_zero, List.getElem?_cons_succ, ↓reduceIte, Nat.reduceEqDiff, reduceCtorEq, loadK, adr, deref, Ad.fv, Ad.live, fadrK, List.length_cons, List.length_nil, List.drop_zero, List.drop_succ_cons, List.take_succ_cons, List.take_zero, Nat.reduceAdd, Nat.reduceLeDiff, Nat.zero_add, Nat.add_zero, aeqK, agEq, scEq, boxVK, newVK, exc, vc_agg, vc_int, vc_bool, vc_str, vc_ptr, vc_sl, vc_fn, boxOf, adInf, List.reverse_cons, List.reverse_nil, List.nil_append, List.cons_append, extK, Bool.and_true, Bool.true_and, Bool.not_true, Bool.not_false, resT, resVs, resV, true_and, and_true, storeK, spl_nil, spl_z, spl_1, spl_2, spl_3, spl_4, spl_5, spl_6, spl_7, spl_8, scal_int, scal_bool, scal_str, scal_nil, implies_true, Bool.and_self, Post_ret, Post_normal, PostS_ret, PostS_normal, retT_true, retT_false, flat_bool, flat_int, flat_str, List.take_length, decide_true, decide_false, Option.some.injEq, Value.bool.injEq, Value.int.injEq, Bool.false_and, Bool.and_false, not_false_eq_true, not_true_eq_false, toIntK, List.length_set, Nat.reduceMul, Bool.not_eq_true, Bool.not_eq_false, List.all_cons, List.all_nil, exps, fillL, buildK, strK, nilcK, fnK, callVT, List.size_toArray, List.append_nil, List.singleton_append, boxOK, newOK, scal_nil, List.isEmpty_nil, List.isEmpty_cons, mkVK, mkOK, mkCells, zeros_0, zeros_1, zeros_2, zeros_3, zeros_4, List.map_cons, List.map_nil, c90, hl.len, wrap64 (left - (l.length : Int)) (by omega) (by omega)]
  refine brT.intro (fun h2 => ?_) (fun h2 => ?_) <;> simp only [go_nil, go_blk, go_skip, go_ret, go_exit, go_seq, go_block, go_reg, go_r0, go_r, go_d0, go_d, go_cond, go_o, go_g, aft_some, cnd_bool, grd_bool, grd_tup, brT_true, brT_false, brT_not, thr_exit, thr_c, thr_nil, stp, stepK, movK, mv1, ex, exv, exvs, upd_some, upd_none, ini, St.val, binK, binV, ofV, pickK, unK, unV, beqK, beq_true, beq_false, if_true, if_false, List.getElem?_cons_zero, List.getElem?_cons_succ, ↓reduceIte, Nat.reduceEqDiff, reduceCtorEq, loadK, adr, deref, Ad.fv, Ad.live, fadrK, List.length_cons, List.length_nil, List.drop_zero, List.drop_succ_cons, List.take_succ_cons, List.take_zero, Nat.reduceAdd, Nat.reduceLeDiff, Nat.zero_add, Nat.add_zero, aeqK, agEq, scEq, boxVK, newVK, exc, vc_agg, vc_int, vc_bool, vc_str, vc_ptr, vc_sl, vc_fn, boxOf, adInf, List.reverse_cons, List.reverse_nil, List.nil_append, List.cons_append, extK, Bool.and_true, Bool.true_and, Bool.not_true, Bool.not_false, resT, resVs, resV, true_and, and_true, storeK, spl_nil, spl_z, spl_1, spl_2, spl_3, spl_4, spl_5, spl_6, spl_7, spl_8, scal_int, scal_bool, scal_str, scal_nil, implies_true, Bool.and_self, Post_ret, Post_normal, PostS_ret, PostS_normal, retT_true, retT_false, flat_bool, flat_int, flat_str, List.take_length, decide_true, decide_false, Option.some.injEq, Value.bool.injEq, Value.int.injEq, Bool.false_and, Bool.and_false, not_false_eq_true, not_true_eq_false, toIntK, List.length_set, Nat.reduceMul, Bool.not_eq_true, Bool.not_eq_false, List.all_cons, List.all_nil, exps, fillL, buildK, strK, nilcK, fnK, callVT, List.size_toArray, List.append_nil, List.singleton_append, boxOK, newOK, scal_nil, List.isEmpty_nil, List.isEmpty_cons, mkVK, mkOK, mkCells, zeros_0, zeros_1, zeros_2, zeros_3, zeros_4, List.map_cons, List.map_nil]
  · simp at h2
    simp [szI, h2]
  · simp at h2
    unfold szI
    rw [if_neg (by omega)]

theorem f61 {H : Hp} {v : Value} {l : List Int} {h : Int} (hl : SlI H v l) : Scal EE 61 [v, .int .i64 h] H (.bool (decide (h ∈ l))) := by
  refine scal_ok rfl rfl k61 (by simp [c61]) rfl fun m hw => ?_
  have hroom := hl.room
  simp only [go_nil, go_blk, go_skip, go_ret, go_exit, go_seq, go_block, go_reg, go_r0, go_r, go_d0, go_d, go_cond, go_o, go_g, aft_some, cnd_bool, grd_bool, grd_tup, brT_true, brT_false, brT_not, thr_exit, thr_c, thr_nil, stp, stepK, movK, mv1, ex, exv, exvs, upd_some, upd_none, ini, St.val, binK, binV, ofV, pickK, unK, unV, beqK, beq_true, beq_false, if_true, if_false, List.getElem?_cons_zero, List.getElem?_cons_succ, ↓reduceIte, Nat.reduceEqDiff, reduceCtorEq, loadK, adr, deref, Ad.fv, Ad.live, fadrK, List.length_cons, List.length_nil, List.drop_zero, List.drop_succ_cons, List.take_succ_cons, List.take_zero, Nat.reduceAdd, Nat.reduceLeDiff, Nat.zero_add, Nat.add_zero, aeqK, agEq, scEq, boxVK, newVK, exc, vc_agg, vc_int, vc_bool, vc_str, vc_ptr, vc_sl, vc_fn, boxOf, adInf, List.reverse_cons, List.reverse_nil, List.nil_append, List.cons_append, extK, Bool.and_true, Bool.true_and, Bool.not_true, Bool.not_false, resT, resVs, resV, true_and, and_true, storeK, spl_nil, spl_z, spl_1, spl_2, spl_3, spl_4, spl_5, spl_6, spl_7, spl_8, scal_int, scal_bool, scal_str, scal_nil, implies_true, Bool.and_self, Post_ret, Post_normal, PostS_ret, PostS_normal, retT_true, retT_false, flat_bool, flat_int, flat_str, List.take_length, decide_true, decide_false, Option.some.injEq, Value.bool.injEq, Value.int.injEq, Bool.false_and, Bool.and_false, not_false_eq_true, not_true_eq_false, toIntK, List.length_set, Nat.reduceMul, Bool.not_eq_true, Bool.not_eq_false, List.all_cons, List.all_nil, exps, fillL, buildK, strK, nilcK, fnK, callVT, List.size_toArray, List.append_nil, List.singleton_append, boxOK, newOK, scal_nil, List.isEmpty_nil, List.isEmpty_cons, mkVK, mkOK, mkCells, zeros_0, zeros_1, zeros_2, zeros_3, zeros_4, List.map_cons, List.map_nil, c61]
  refine go_for l.length (fun i s => s.H = H ∧ s.ρ 0 = .val v ∧ s.ρ 1 = .val (.int .i64 h) ∧ s.ρ 5 = .val (.int .i64 i) ∧ h ∉ l.take i) (fun s => s.H = H ∧ h ∉ l) (by simp [upd, ini]) ?_ ?_
  · rintro i s hi ⟨hH, h0, h3, h5, hn⟩
    simp only [go_nil, go_blk, go_skip, go_ret, go_exit, go_seq, go_block, go_reg, go_r0, go_r, go_d0, go_d, go_cond, go_o, go_g, aft_some, cnd_bool, grd_bool, grd_tup, brT_true, brT_false, brT_not, thr_exit, thr_c, thr_nil, stp, stepK, movK, mv1, ex, exv, exvs, upd_some, upd_none, ini, St.val, binK, binV, ofV, pickK, unK, unV, beqK, beq_true, beq_false, if_true, if_false, List.getElem?_cons_zero, List.getElem?_cons_succ, ↓reduceIte, Nat.reduceEqDiff, reduceCtorEq, loadK, adr, deref, Ad.fv, Ad.live, fadrK, List.length_cons, List.length_nil, List.drop_zero, List.drop_succ_cons, List.take_succ_cons, List.take_zero, Nat.reduceAdd, Nat.reduceLeDiff, Nat.zero_add, Nat.add_zero, aeqK, agEq, scEq, boxVK, newVK, exc, vc_agg, vc_int, vc_bool, vc_str, vc_ptr, vc_sl, vc_fn, boxOf, adInf, List.reverse_cons, List.reverse_nil, List.nil_append, List.cons_append, extK, Bool.and_true, Bool.true_and, Bool.not_true, Bool.not_false, resT, resVs, resV, true_and, and_true, storeK, spl_nil, spl_z, spl_1, spl_2, spl_3, spl_4, spl_5, spl_6, spl_7, spl_8, scal_int, scal_bool, scal_str, scal_nil, implies_true, Bool.and_self, Post_ret, Post_normal, PostS_ret, PostS_normal, retT_true, retT_false, flat_bool, flat_int, flat_str, List.take_length, decide_true, decide_false, Option.some.injEq, Value.bool.injEq, Value.int.injEq, Bool.false_and, Bool.and_false, not_false_eq_true, not_true_eq_false, toIntK, List.length_set, Nat.reduceMul, Bool.not_eq_true, Bool.not_eq_false, List.all_cons, List.all_nil, exps, fillL, buildK, strK, nilcK, fnK, callVT, List.size_toArray, List.append_nil, List.singleton_append, boxOK, newOK, scal_nil, List.isEmpty_nil, List.isEmpty_cons, mkVK, mkOK, mkCells, zeros_0, zeros_1, zeros_2, zeros_3, zeros_4, List.map_cons, List.map_nil, h0, h3, h5, hl.len]
    refine brT.intro (fun h1 => ?_) (fun h1 => ?_) <;> simp only [go_nil, go_blk, go_skip, go_ret, go_exit, go_seq, go_block, go_reg, go_r0, go_r, go_d0, go_d, go_cond, go_o, go_g, aft_some, cnd_bool, grd_bool, grd_tup, brT_true, brT_false, brT_not, thr_exit, thr_c, thr_nil, stp, stepK, movK, mv1, ex, exv, exvs, upd_some, upd_none, ini, St.val, binK, binV, ofV, pickK, unK, unV, beqK, beq_true, beq_false, if_true, if_false, List.getElem?_cons_zero, List.getElem?_cons_succ, ↓reduceIte, Nat.reduceEqDiff, reduceCtorEq, loadK, adr, deref, Ad.fv, Ad.live, fadrK, List.length_cons, List.length_nil, List.drop_zero, List.drop_succ_cons, List.take_succ_cons, List.take_zero, Nat.reduceAdd, Nat.reduceLeDiff, Nat.zero_add, Nat.add_zero, aeqK, agEq, scEq, boxVK, newVK, exc, vc_agg, vc_int, vc_bool, vc_str, vc_ptr, vc_sl, vc_fn, boxOf, adInf, List.reverse_cons, List.reverse_nil, List.nil_append, List.cons_append, extK, Bool.and_true, Bool.true_and, Bool.not_true, Bool.not_false, resT, resVs, resV, true_and, and_true, storeK, spl_nil, spl_z, spl_1, spl_2, spl_3, spl_4, spl_5, spl_6, spl_7, spl_8, scal_int, scal_bool, scal_str, scal_nil, implies_true, Bool.and_self, Post_ret, Post_normal, PostS_ret, PostS_normal, retT_true, retT_false, flat_bool, flat_int, flat_str, List.take_length, decide_true, decide_false, Option.some.injEq, Value.bool.injEq, Value.int.injEq, Bool.false_and, Bool.and_false, not_false_eq_true, not_true_eq_false, toIntK, List.length_set, Nat.reduceMul, Bool.not_eq_true, Bool.not_eq_false, List.all_cons, List.all_nil, exps, fillL, buildK, strK, nilcK, fnK, callVT, List.size_toArray, List.append_nil, List.singleton_append, boxOK, newOK, scal_nil, List.isEmpty_nil, List.isEmpty_cons, mkVK, mkOK, mkCells, zeros_0, zeros_1, zeros_2, zeros_3, zeros_4, List.map_cons, List.map_nil, h0, h3, h5]
    · have h2 : i < l.length := by simpa using h1
      obtain ⟨id, p, o, ho, hr, hia⟩ := hl.int (List.getElem?_eq_getElem h2)
      simp only [go_nil, go_blk, go_skip, go_ret, go_exit, go_seq, go_block, go_reg, go_r0, go_r, go_d0, go_d, go_cond, go_o, go_g, aft_some, cnd_bool, grd_bool, grd_tup, brT_true, brT_false, brT_not, thr_exit, thr_c, thr_nil, stp, stepK, movK, mv1, ex, exv, exvs, upd_some, upd_none, ini, St.val, binK, binV, ofV, pickK, unK, unV, beqK, beq_true, beq_false, if_true, if_false, List.getElem?_cons_zero, List.getElem?_cons_succ, ↓reduceIte, Nat.reduceEqDiff, reduceCtorEq, loadK, adr, deref, Ad.fv, Ad.live, fadrK, List.length_cons, List.length_nil, List.drop_zero, List.drop_succ_cons, List.take_succ_cons, List.take_zero, Nat.reduceAdd, Nat.reduceLeDiff, Nat.zero_add, Nat.add_zero, aeqK, agEq, scEq, boxVK, newVK, exc, vc_agg, vc_int, vc_bool, vc_str, vc_ptr, vc_sl, vc_fn, boxOf, adInf, List.reverse_cons, List.reverse_nil, List.nil_append, List.cons_append, extK, Bool.and_true, Bool.true_and, Bool.not_true, Bool.not_false, resT, resVs, resV, true_and, and_true, storeK, spl_nil, spl_z, spl_1, spl_2, spl_3, spl_4, spl_5, spl_6, spl_7, spl_8, scal_int, scal_bool, scal_str, scal_nil, implies_true, Bool.and_self, Post_ret, Post_normal, PostS_ret, PostS_normal, retT_true, retT_false, flat_bool, flat_int, flat_str, List.take_length, decide_true, decide_false, Option.some.injEq, Value.bool.injEq, Value.int.injEq, Bool.false_and, Bool.and_false, not_false_eq_true, not_true_eq_false, toIntK, List.length_set, Nat.reduceMul, Bool.not_eq_true, Bool.not_eq_false, List.all_cons, List.all_nil, exps, fillL, buildK, strK, nilcK, fnK, callVT, List.size_toArray, List.append_nil, List.singleton_append, boxOK, newOK, scal_nil, List.isEmpty_nil, List.isEmpty_cons, mkVK, mkOK, mkCells, zeros_0, zeros_1, zeros_2, zeros_3, zeros_4, List.map_cons, List.map_nil, h0, h3, h5, hia, hH, ho, hr]
      refine brT.intro (fun h4 => ?_) (fun h4 => ?_) <;> simp only [go_nil, go_blk, go_skip, go_ret, go_exit, go_seq, go_block, go_reg, go_r0, go_r, go_d0, go_d, go_cond, go_o, go_g, aft_some, cnd_bool, grd_bool, grd_tup, brT_true, brT_false, brT_not, thr_exit, thr_c, thr_nil, stp, stepK, movK, mv1, ex, exv, exvs, upd_some, upd_none, ini, St.val, binK, binV, ofV, pickK, unK, unV, beqK, beq_true, beq_false, if_true, if_false, List.getElem?_cons_zero, List.getElem?_cons_succ, ↓reduceIte, Nat.reduceEqDiff, reduceCtorEq, loadK, adr, deref, Ad.fv, Ad.live, fadrK, List.length_cons, List.length_nil, List.drop_zero, List.drop_succ_cons, List.take_succ_cons, List.take_zero, Nat.reduceAdd, Nat.reduceLeDiff, Nat.zero_add, Nat.add_zero, aeqK, agEq, scEq, boxVK, newVK, exc, vc_agg, vc_int, vc_bool, vc_str, vc_ptr, vc_sl, vc_fn, boxOf, adInf, List.reverse_cons, List.reverse_nil, List.nil_append, List.cons_append, extK, Bool.and_true, Bool.true_and, Bool.not_true, Bool.not_false, resT, resVs, resV, true_and, and_true, storeK, spl_nil, spl_z, spl_1, spl_2, spl_3, spl_4, spl_5, spl_6, spl_7, spl_8, scal_int, scal_bool, scal_str, scal_nil, implies_true, Bool.and_self, Post_ret, Post_normal, PostS_ret, PostS_normal, retT_true, retT_false, flat_bool, flat_int, flat_str, List.take_length, decide_true, decide_false, Option.some.injEq, Value.bool.injEq, Value.int.injEq, Bool.false_and, Bool.and_false, not_false_eq_true, not_true_eq_false, toIntK, List.length_set, Nat.reduceMul, Bool.not_eq_true, Bool.not_eq_false, List.all_cons, List.all_nil, exps, fillL, buildK, strK, nilcK, fnK, callVT, List.size_toArray, List.append_nil, List.singleton_append, boxOK, newOK, scal_nil, List.isEmpty_nil, List.isEmpty_cons, mkVK, mkOK, mkCells, zeros_0, zeros_1, zeros_2, zeros_3, zeros_4, List.map_cons, List.map_nil, h0, h3, h5, wrap64 ((i : Int) + 1) (by omega) (by omega)]
      · have : l[i] = h := of_decide_eq_true h4
        simp [← this]
      · exact ⟨h2, by simp, notin_succ h2 hn (of_decide_eq_false h4)⟩
    · have h2 : ¬ i < l.length := by simpa using h1
      rw [List.take_of_length_le (by omega)] at hn
      exact ⟨hH, hn⟩
  · rintro s ⟨hH, hn⟩
    simp only [go_nil, go_blk, go_skip, go_ret, go_exit, go_seq, go_block, go_reg, go_r0, go_r, go_d0, go_d, go_cond, go_o, go_g, aft_some, cnd_bool, grd_bool, grd_tup, brT_true, brT_false, brT_not, thr_exit, thr_c, thr_nil, stp, stepK, movK, mv1, ex, exv, exvs, upd_some, upd_none, ini, St.val, binK, binV, ofV, pickK, unK, unV, beqK, beq_true, beq_false, if_true, if_false, List.getElem?_cons_zero, List.getElem?_cons_succ, ↓reduceIte, Nat.reduceEqDiff, reduceCtorEq, loadK, adr, deref, Ad.fv, Ad.live, fadrK, List.length_cons, List.length_nil, List.drop_zero, List.drop_succ_cons, List.take_succ_cons, List.take_zero, Nat.reduceAdd, Nat.reduceLeDiff, Nat.zero_add, Nat.add_zero, aeqK, agEq, scEq, boxVK, newVK, exc, vc_agg, vc_int, vc_bool, vc_str, vc_ptr, vc_sl, vc_fn, boxOf, adInf, List.reverse_cons, List.reverse_nil, List.nil_append, List.cons_append, extK, Bool.and_true, Bool.true_and, Bool.not_true, Bool.not_false, resT, resVs, resV, true_and, and_true, storeK, spl_nil, spl_z, spl_1, spl_2, spl_3, spl_4, spl_5, spl_6, spl_7, spl_8, scal_int, scal_bool, scal_str, scal_nil, implies_true, Bool.and_self, Post_ret, Post_normal, PostS_ret, PostS_normal, retT_true, retT_false, flat_bool, flat_int, flat_str, List.take_length, decide_true, decide_false, Option.some.injEq, Value.bool.injEq, Value.int.injEq, Bool.false_and, Bool.and_false, not_false_eq_true, not_true_eq_false, toIntK, List.length_set, Nat.reduceMul, Bool.not_eq_true, Bool.not_eq_false, List.all_cons, List.all_nil, exps, fillL, buildK, strK, nilcK, fnK, callVT, List.size_toArray, List.append_nil, List.singleton_append, boxOK, newOK, scal_nil, List.isEmpty_nil, List.isEmpty_cons, mkVK, mkOK, mkCells, zeros_0, zeros_1, zeros_2, zeros_3, zeros_4, List.map_cons, List.map_nil, hH, hn]

theorem f85 {H : Hp} {v : Value} {l : List Int} {h : Int} (hl : SlI H v l) : Scal EE 85 [v, .int .i64 h] H (.int .i64 (idxI l h)) := by
  refine scal_ok rfl rfl k85 (by simp [c85]) rfl fun m hw => ?_
  have hroom := hl.room
  simp only [go_nil, go_blk, go_skip, go_ret, go_exit, go_seq, go_block, go_reg, go_r0, go_r, go_d0, go_d, go_cond, go_o, go_g, aft_some, cnd_bool, grd_bool, grd_tup, brT_true, brT_false, brT_not, thr_exit, thr_c, thr_nil, stp, stepK, movK, mv1, ex, exv, exvs, upd_some, upd_none, ini, St.val, binK, binV, ofV, pickK, unK, unV, beqK, beq_true, beq_false, if_true, if_false, List.getElem?_cons_zero, List.getElem?_cons_succ, ↓reduceIte, Nat.reduceEqDiff, reduceCtorEq, loadK, adr, deref, Ad.fv, Ad.live, fadrK, List.length_cons, List.length_nil, List.drop_zero, List.drop_succ_cons, List.take_succ_cons, List.take_zero, Nat.reduceAdd, Nat.reduceLeDiff, Nat.zero_add, Nat.add_zero, aeqK, agEq, scEq, boxVK, newVK, exc, vc_agg, vc_int, vc_bool, vc_str, vc_ptr, vc_sl, vc_fn, boxOf, adInf, List.reverse_cons, List.reverse_nil, List.nil_append, List.cons_append, extK, Bool.and_true, Bool.true_and, Bool.not_true, Bool.not_false, resT, resVs, resV, true_and, and_true, storeK, spl_nil, spl_z, spl_1, spl_2, spl_3, spl_4, spl_5, spl_6, spl_7, spl_8, scal_int, scal_bool, scal_str, scal_nil, implies_true, Bool.and_self, Post_ret, Post_normal, PostS_ret, PostS_normal, retT_true, retT_false, flat_bool, flat_int, flat_str, List.take_length, decide_true, decide_false, Option.some.injEq, Value.bool.injEq, Value.int.injEq, Bool.false_and, Bool.and_false, not_false_eq_true, not_true_eq_false, toIntK, List.length_set, Nat.reduceMul, Bool.not_eq_true, Bool.not_eq_false, List.all_cons, List.all_nil, exps, fillL, buildK, strK, nilcK, fnK, callVT, List.size_toArray, List.append_nil, List.singleton_append, boxOK, newOK, scal_nil, List.isEmpty_nil, List.isEmpty_cons, mkVK, mkOK, mkCells, zeros_0, zeros_1, zeros_2, zeros_3, zeros_4, List.map_cons, List.map_nil, c85, hl.len]
  refine go_for l.length (fun i s => s.H = H ∧ s.ρ 0 = .val v ∧ s.ρ 1 = .val (.int .i64 h) ∧ s.ρ 7 = .val (.int .i64 l.length) ∧ s.ρ 8 = .val (.int .i64 i) ∧ h ∉ l.take i) (fun s => s.H = H ∧ h ∉ l) (by simp [upd, ini]) ?_ ?_
  · rintro i s hi ⟨hH, h0, h3, h7, h8, hn⟩
    simp only [go_nil, go_blk, go_skip, go_ret, go_exit, go_seq, go_block, go_reg, go_r0, go_r, go_d0, go_d, go_cond, go_o, go_g, aft_some, cnd_bool, grd_bool, grd_tup, brT_true, brT_false, brT_not, thr_exit, thr_c, thr_nil, stp, stepK, movK, mv1, ex, exv, exvs, upd_some, upd_none, ini, St.val, binK, binV, ofV, pickK, unK, unV, beqK, beq_true, beq_false, if_true, if_false, List.getElem?_cons_zero, List.getElem?_cons_succ, ↓reduceIte, Nat.reduceEqDiff, reduceCtorEq, loadK, adr, deref, Ad.fv, Ad.live, fadrK, List.length_cons, List.length_nil, List.drop_zero, List.drop_succ_cons, List.take_succ_cons, List.take_zero, Nat.reduceAdd, Nat.reduceLeDiff, Nat.zero_add, Nat.add_zero, aeqK, agEq, scEq, boxVK, newVK, exc, vc_agg, vc_int, vc_bool, vc_str, vc_ptr, vc_sl, vc_fn, boxOf, adInf, List.reverse_cons, List.reverse_nil, List.nil_append, List.cons_append, extK, Bool.and_true, Bool.true_and, Bool.not_true, Bool.not_false, resT, resVs, resV, true_and, and_true, storeK, spl_nil, spl_z, spl_1, spl_2, spl_3, spl_4, spl_5, spl_6, spl_7, spl_8, scal_int, scal_bool, scal_str, scal_nil, implies_true, Bool.and_self, Post_ret, Post_normal, PostS_ret, PostS_normal, retT_true, retT_false, flat_bool, flat_int, flat_str, List.take_length, decide_true, decide_false, Option.some.injEq, Value.bool.injEq, Value.int.injEq, Bool.false_and, Bool.and_false, not_false_eq_true, not_true_eq_false, toIntK, List.length_set, Nat.reduceMul, Bool.not_eq_true, Bool.not_eq_false, List.all_cons, List.all_nil, exps, fillL, buildK, strK, nilcK, fnK, callVT, List.size_toArray, List.append_nil, List.singleton_append, boxOK, newOK, scal_nil, List.isEmpty_nil, List.isEmpty_cons, mkVK, mkOK, mkCells, zeros_0, zeros_1, zeros_2, zeros_3, zeros_4, List.map_cons, List.map_nil, h0, h3, h7, h8]
    refine brT.intro (fun h1 => ?_) (fun h1 => ?_) <;> simp only [go_nil, go_blk, go_skip, go_ret, go_exit, go_seq, go_block, go_reg, go_r0, go_r, go_d0, go_d, go_cond, go_o, go_g, aft_some, cnd_bool, grd_bool, grd_tup, brT_true, brT_false, brT_not, thr_exit, thr_c, thr_nil, stp, stepK, movK, mv1, ex, exv, exvs, upd_some, upd_none, ini, St.val, binK, binV, ofV, pickK, unK, unV, beqK, beq_true, beq_false, if_true, if_false, List.getElem?_cons_zero, List.getElem?_cons_succ, ↓reduceIte, Nat.reduceEqDiff, reduceCtorEq, loadK, adr, deref, Ad.fv, Ad.live, fadrK, List.length_cons, List.length_nil, List.drop_zero, List.drop_succ_cons, List.take_succ_cons, List.take_zero, Nat.reduceAdd, Nat.reduceLeDiff, Nat.zero_add, Nat.add_zero, aeqK, agEq, scEq, boxVK, newVK, exc, vc_agg, vc_int, vc_bool, vc_str, vc_ptr, vc_sl, vc_fn, boxOf, adInf, List.reverse_cons, List.reverse_nil, List.nil_append, List.cons_append, extK, Bool.and_true, Bool.true_and, Bool.not_true, Bool.not_false, resT, resVs, resV, true_and, and_true, storeK, spl_nil, spl_z, spl_1, spl_2, spl_3, spl_4, spl_5, spl_6, spl_7, spl_8, scal_int, scal_bool, scal_str, scal_nil, implies_true, Bool.and_self, Post_ret, Post_normal, PostS_ret, PostS_normal, retT_true, retT_false, flat_bool, flat_int, flat_str, List.take_length, decide_true, decide_false, Option.some.injEq, Value.bool.injEq, Value.int.injEq, Bool.false_and, Bool.and_false, not_false_eq_true, not_true_eq_false, toIntK, List.length_set, Nat.reduceMul, Bool.not_eq_true, Bool.not_eq_false, List.all_cons, List.all_nil, exps, fillL, buildK, strK, nilcK, fnK, callVT, List.size_toArray, List.append_nil, List.singleton_append, boxOK, newOK, scal_nil, List.isEmpty_nil, List.isEmpty_cons, mkVK, mkOK, mkCells, zeros_0, zeros_1, zeros_2, zeros_3, zeros_4, List.map_cons, List.map_nil, h0, h3, h7, h8]
    · have h2 : i < l.length := by simpa using h1
      obtain ⟨id, p, o, ho, hr, hia⟩ := hl.int (List.getElem?_eq_getElem h2)
      simp only [go_nil, go_blk, go_skip, go_ret, go_exit, go_seq, go_block, go_reg, go_r0, go_r, go_d0, go_d, go_cond, go_o, go_g, aft_some, cnd_bool, grd_bool, grd_tup, brT_true, brT_false, brT_not, thr_exit, thr_c, thr_nil, stp, stepK, movK, mv1, ex, exv, exvs, upd_some, upd_none, ini, St.val, binK, binV, ofV, pickK, unK, unV, beqK, beq_true, beq_false, if_true, if_false, List.getElem?_cons_zero, List.getElem?_cons_succ, ↓reduceIte, Nat.reduceEqDiff, reduceCtorEq, loadK, adr, deref, Ad.fv, Ad.live, fadrK, List.length_cons, List.length_nil, List.drop_zero, List.drop_succ_cons, List.take_succ_cons, List.take_zero, Nat.reduceAdd, Nat.reduceLeDiff, Nat.zero_add, Nat.add_zero, aeqK, agEq, scEq, boxVK, newVK, exc, vc_agg, vc_int, vc_bool, vc_str, vc_ptr, vc_sl, vc_fn, boxOf, adInf, List.reverse_cons, List.reverse_nil, List.nil_append, List.cons_append, extK, Bool.and_true, Bool.true_and, Bool.not_true, Bool.not_false, resT, resVs, resV, true_and, and_true, storeK, spl_nil, spl_z, spl_1, spl_2, spl_3, spl_4, spl_5, spl_6, spl_7, spl_8, scal_int, scal_bool, scal_str, scal_nil, implies_true, Bool.and_self, Post_ret, Post_normal, PostS_ret, PostS_normal, retT_true, retT_false, flat_bool, flat_int, flat_str, List.take_length, decide_true, decide_false, Option.some.injEq, Value.bool.injEq, Value.int.injEq, Bool.false_and, Bool.and_false, not_false_eq_true, not_true_eq_false, toIntK, List.length_set, Nat.reduceMul, Bool.not_eq_true, Bool.not_eq_false, List.all_cons, List.all_nil, exps, fillL, buildK, strK, nilcK, fnK, callVT, List.size_toArray, List.append_nil, List.singleton_append, boxOK, newOK, scal_nil, List.isEmpty_nil, List.isEmpty_cons, mkVK, mkOK, mkCells, zeros_0, zeros_1, zeros_2, zeros_3, zeros_4, List.map_cons, List.map_nil, h0, h3, h7, h8, hia, hH, ho, hr]
      refine brT.intro (fun h4 => ?_) (fun h4 => ?_) <;> simp only [go_nil, go_blk, go_skip, go_ret, go_exit, go_seq, go_block, go_reg, go_r0, go_r, go_d0, go_d, go_cond, go_o, go_g, aft_some, cnd_bool, grd_bool, grd_tup, brT_true, brT_false, brT_not, thr_exit, thr_c, thr_nil, stp, stepK, movK, mv1, ex, exv, exvs, upd_some, upd_none, ini, St.val, binK, binV, ofV, pickK, unK, unV, beqK, beq_true, beq_false, if_true, if_false, List.getElem?_cons_zero, List.getElem?_cons_succ, ↓reduceIte, Nat.reduceEqDiff, reduceCtorEq, loadK, adr, deref, Ad.fv, Ad.live, fadrK, List.length_cons, List.length_nil, List.drop_zero, List.drop_succ_cons, List.take_succ_cons, List.take_zero, Nat.reduceAdd, Nat.reduceLeDiff, Nat.zero_add, Nat.add_zero, aeqK, agEq, scEq, boxVK, newVK, exc, vc_agg, vc_int, vc_bool, vc_str, vc_ptr, vc_sl, vc_fn, boxOf, adInf, List.reverse_cons, List.reverse_nil, List.nil_append, List.cons_append, extK, Bool.and_true, Bool.true_and, Bool.not_true, Bool.not_false, resT, resVs, resV, true_and, and_true, storeK, spl_nil, spl_z, spl_1, spl_2, spl_3, spl_4, spl_5, spl_6, spl_7, spl_8, scal_int, scal_bool, scal_str, scal_nil, implies_true, Bool.and_self, Post_ret, Post_normal, PostS_ret, PostS_normal, retT_true, retT_false, flat_bool, flat_int, flat_str, List.take_length, decide_true, decide_false, Option.some.injEq, Value.bool.injEq, Value.int.injEq, Bool.false_and, Bool.and_false, not_false_eq_true, not_true_eq_false, toIntK, List.length_set, Nat.reduceMul, Bool.not_eq_true, Bool.not_eq_false, List.all_cons, List.all_nil, exps, fillL, buildK, strK, nilcK, fnK, callVT, List.size_toArray, List.append_nil, List.singleton_append, boxOK, newOK, scal_nil, List.isEmpty_nil, List.isEmpty_cons, mkVK, mkOK, mkCells, zeros_0, zeros_1, zeros_2, zeros_3, zeros_4, List.map_cons, List.map_nil, h0, h3, h7, h8, wrap64 ((i : Int) + 1) (by omega) (by omega)]
      · exact (idxI_at h2 hn (of_decide_eq_true h4).symm).symm
      · exact ⟨h2, by simp, notin_succ h2 hn (fun e => of_decide_eq_false h4 e.symm)⟩
    · have h2 : ¬ i < l.length := by simpa using h1
      rw [List.take_of_length_le (by omega)] at hn
      exact ⟨hH, hn⟩
  · rintro s ⟨hH, hn⟩
    simp only [go_nil, go_blk, go_skip, go_ret, go_exit, go_seq, go_block, go_reg, go_r0, go_r, go_d0, go_d, go_cond, go_o, go_g, aft_some, cnd_bool, grd_bool, grd_tup, brT_true, brT_false, brT_not, thr_exit, thr_c, thr_nil, stp, stepK, movK, mv1, ex, exv, exvs, upd_some, upd_none, ini, St.val, binK, binV, ofV, pickK, unK, unV, beqK, beq_true, beq_false, if_true, if_false, List.getElem?_cons_zero, List.getElem?_cons_succ, ↓reduceIte, Nat.reduceEqDiff, reduceCtorEq, loadK, adr, deref, Ad.fv, Ad.live, fadrK, List.length_cons, List.length_nil, List.drop_zero, List.drop_succ_cons, List.take_succ_cons, List.take_zero, Nat.reduceAdd, Nat.reduceLeDiff, Nat.zero_add, Nat.add_zero, aeqK, agEq, scEq, boxVK, newVK, exc, vc_agg, vc_int, vc_bool, vc_str, vc_ptr, vc_sl, vc_fn, boxOf, adInf, List.reverse_cons, List.reverse_nil, List.nil_append, List.cons_append, extK, Bool.and_true, Bool.true_and, Bool.not_true, Bool.not_false, resT, resVs, resV, true_and, and_true, storeK, spl_nil, spl_z, spl_1, spl_2, spl_3, spl_4, spl_5, spl_6, spl_7, spl_8, scal_int, scal_bool, scal_str, scal_nil, implies_true, Bool.and_self, Post_ret, Post_normal, PostS_ret, PostS_normal, retT_true, retT_false, flat_bool, flat_int, flat_str, List.take_length, decide_true, decide_false, Option.some.injEq, Value.bool.injEq, Value.int.injEq, Bool.false_and, Bool.and_false, not_false_eq_true, not_true_eq_false, toIntK, List.length_set, Nat.reduceMul, Bool.not_eq_true, Bool.not_eq_false, List.all_cons, List.all_nil, exps, fillL, buildK, strK, nilcK, fnK, callVT, List.size_toArray, List.append_nil, List.singleton_append, boxOK, newOK, scal_nil, List.isEmpty_nil, List.isEmpty_cons, mkVK, mkOK, mkCells, zeros_0, zeros_1, zeros_2, zeros_3, zeros_4, List.map_cons, List.map_nil, hH, hn]
    simp [idxI, hn]

theorem f62 {H : Hp} {v : Value} {l : List Int} {h : Int} (hl : SlI H v l) : Scal EE 62 [v, .int .i64 h] H (.bool (decide (h ∈ l))) := by
  refine scal_ok rfl rfl k62 (by simp [c62]) rfl fun m hw => ?_
  have a85 := fun {m draw s d ts Q} => callT_at (m := m) (draw := draw) (s := s) (d := d) (ts := ts) (Q := Q) (f85 (h := h) hl)
  simp only [go_nil, go_blk, go_skip, go_ret, go_exit, go_seq, go_block, go_reg, go_r0, go_r, go_d0, go_d, go_cond, go_o, go_g, aft_some, cnd_bool, grd_bool, grd_tup, brT_true, brT_false, brT_not, thr_exit, thr_c, thr_nil, stp, stepK, movK, mv1, ex, exv, exvs, upd_some, upd_none, ini, St.val, binK, binV, ofV, pickK, unK, unV, beqK, beq_true, beq_false, if_true, if_false, List.getElem?_cons_zero, List.getElem?_cons_succ, ↓reduceIte, Nat.reduceEqDiff, reduceCtorEq, loadK, adr, deref, Ad.fv, Ad.live, fadrK, List.length_cons, List.length_nil, List.drop_zero, List.drop_succ_cons, List.take_succ_cons, List.take_zero, Nat.reduceAdd, Nat.reduceLeDiff, Nat.zero_add, Nat.add_zero, aeqK, agEq, scEq, boxVK, newVK, exc, vc_agg, vc_int, vc_bool, vc_str, vc_ptr, vc_sl, vc_fn, boxOf, adInf, List.reverse_cons, List.reverse_nil, List.nil_append, List.cons_append, extK, Bool.and_true, Bool.true_and, Bool.not_true, Bool.not_false, resT, resVs, resV, true_and, and_true, storeK, spl_nil, spl_z, spl_1, spl_2, spl_3, spl_4, spl_5, spl_6, spl_7, spl_8, scal_int, scal_bool, scal_str, scal_nil, implies_true, Bool.and_self, Post_ret, Post_normal, PostS_ret, PostS_normal, retT_true, retT_false, flat_bool, flat_int, flat_str, List.take_length, decide_true, decide_false, Option.some.injEq, Value.bool.injEq, Value.int.injEq, Bool.false_and, Bool.and_false, not_false_eq_true, not_true_eq_false, toIntK, List.length_set, Nat.reduceMul, Bool.not_eq_true, Bool.not_eq_false, List.all_cons, List.all_nil, exps, fillL, buildK, strK, nilcK, fnK, callVT, List.size_toArray, List.append_nil, List.singleton_append, boxOK, newOK, scal_nil, List.isEmpty_nil, List.isEmpty_cons, mkVK, mkOK, mkCells, zeros_0, zeros_1, zeros_2, zeros_3, zeros_4, List.map_cons, List.map_nil, c62, a85, hw]
  rw [Bool.eq_iff_iff]
  simp [idxI_nonneg]

theorem f23 {H : Hp} {v u : Value} {l k : List Int} (hl : SlI H v l) (hk : SlI H u k) : Scal EE 23 [v, u] H (.bool (decide (l = k))) := by
  refine scal_ok rfl rfl k23 (by simp [c23]) rfl fun m hw => ?_
  have hroom := hl.room
  simp only [go_nil, go_blk, go_skip, go_ret, go_exit, go_seq, go_block, go_reg, go_r0, go_r, go_d0, go_d, go_cond, go_o, go_g, aft_some, cnd_bool, grd_bool, grd_tup, brT_true, brT_false, brT_not, thr_exit, thr_c, thr_nil, stp, stepK, movK, mv1, ex, exv, exvs, upd_some, upd_none, ini, St.val, binK, binV, ofV, pickK, unK, unV, beqK, beq_true, beq_false, if_true, if_false, List.getElem?_cons_zero, List.getElem?_cons_succ, ↓reduceIte, Nat.reduceEqDiff, reduceCtorEq, loadK, adr, deref, Ad.fv, Ad.live, fadrK, List.length_cons, List.length_nil, List.drop_zero, List.drop_succ_cons, List.take_succ_cons, List.take_zero, Nat.reduceAdd, Nat.reduceLeDiff, Nat.zero_add, Nat.add_zero, aeqK, agEq, scEq, boxVK, newVK, exc, vc_agg, vc_int, vc_bool, vc_str, vc_ptr, vc_sl, vc_fn, boxOf, adInf, List.reverse_cons, List.reverse_nil, List.nil_append, List.cons_append, extK, Bool.and_true, Bool.true_and, Bool.not_true, Bool.not_false, resT, resVs, resV, true_and, and_true, storeK, spl_nil, spl_z, spl_1, spl_2, spl_3, spl_4, spl_5, spl_6, spl_7, spl_8, scal_int, scal_bool, scal_str, scal_nil, implies_true, Bool.and_self, Post_ret, Post_normal, PostS_ret, PostS_normal, retT_true, retT_false, flat_bool, flat_int, flat_str, List.take_length, decide_true, decide_false, Option.some.injEq, Value.bool.injEq, Value.int.injEq, Bool.false_and, Bool.and_false, not_false_eq_true, not_true_eq_false, toIntK, List.length_set, Nat.reduceMul, Bool.not_eq_true, Bool.not_eq_false, List.all_cons, List.all_nil, exps, fillL, buildK, strK, nilcK, fnK, callVT, List.size_toArray, List.append_nil, List.singleton_append, boxOK, newOK, scal_nil, List.isEmpty_nil, List.isEmpty_cons, mkVK, mkOK, mkCells, zeros_0, zeros_1, zeros_2, zeros_3, zeros_4, List.map_cons, List.map_nil, c23, hl.len, hk.len]
  refine brT.intro (fun h1 => ?_) (fun h1 => ?_) <;> simp only [go_nil, go_blk, go_skip, go_ret, go_exit, go_seq, go_block, go_reg, go_r0, go_r, go_d0, go_d, go_cond, go_o, go_g, aft_some, cnd_bool, grd_bool, grd_tup, brT_true, brT_false, brT_not, thr_exit, thr_c, thr_nil, stp, stepK, movK, mv1, ex, exv, exvs, upd_some, upd_none, ini, St.val, binK, binV, ofV, pickK, unK, unV, beqK, beq_true, beq_false, if_true, if_false, List.getElem?_cons_zero, List.getElem?_cons_succ, ↓reduceIte, Nat.reduceEqDiff, reduceCtorEq, loadK, adr, deref, Ad.fv, Ad.live, fadrK, List.length_cons, List.length_nil, List.drop_zero, List.drop_succ_cons, List.take_succ_cons, List.take_zero, Nat.reduceAdd, Nat.reduceLeDiff, Nat.zero_add, Nat.add_zero, aeqK, agEq, scEq, boxVK, newVK, exc, vc_agg, vc_int, vc_bool, vc_str, vc_ptr, vc_sl, vc_fn, boxOf, adInf, List.reverse_cons, List.reverse_nil, List.nil_append, List.cons_append, extK, Bool.and_true, Bool.true_and, Bool.not_true, Bool.not_false, resT, resVs, resV, true_and, and_true, storeK, spl_nil, spl_z, spl_1, spl_2, spl_3, spl_4, spl_5, spl_6, spl_7, spl_8, scal_int, scal_bool, scal_str, scal_nil, implies_true, Bool.and_self, Post_ret, Post_normal, PostS_ret, PostS_normal, retT_true, retT_false, flat_bool, flat_int, flat_str, List.take_length, decide_true, decide_false, Option.some.injEq, Value.bool.injEq, Value.int.injEq, Bool.false_and, Bool.and_false, not_false_eq_true, not_true_eq_false, toIntK, List.length_set, Nat.reduceMul, Bool.not_eq_true, Bool.not_eq_false, List.all_cons, List.all_nil, exps, fillL, buildK, strK, nilcK, fnK, callVT, List.size_toArray, List.append_nil, List.singleton_append, boxOK, newOK, scal_nil, List.isEmpty_nil, List.isEmpty_cons, mkVK, mkOK, mkCells, zeros_0, zeros_1, zeros_2, zeros_3, zeros_4, List.map_cons, List.map_nil]
  · have hlen : l.length = k.length := by simp at h1; omega
    refine go_for l.length (fun i s => s.H = H ∧ s.ρ 0 = .val v ∧ s.ρ 1 = .val u ∧ s.ρ 5 = .val (.int .i64 i) ∧ l.take i = k.take i) (fun s => s.H = H ∧ l = k) (by simp [upd, ini]) ?_ ?_
    · rintro i s hi ⟨hH, h0, h1, h5, hn⟩
      simp only [go_nil, go_blk, go_skip, go_ret, go_exit, go_seq, go_block, go_reg, go_r0, go_r, go_d0, go_d, go_cond, go_o, go_g, aft_some, cnd_bool, grd_bool, grd_tup, brT_true, brT_false, brT_not, thr_exit, thr_c, thr_nil, stp, stepK, movK, mv1, ex, exv, exvs, upd_some, upd_none, ini, St.val, binK, binV, ofV, pickK, unK, unV, beqK, beq_true, beq_false, if_true, if_false, List.getElem?_cons_zero, List.getElem?_cons_succ, ↓reduceIte, Nat.reduceEqDiff, reduceCtorEq, loadK, adr, deref, Ad.fv, Ad.live, fadrK, List.length_cons, List.length_nil, List.drop_zero, List.drop_succ_cons, List.take_succ_cons, List.take_zero, Nat.reduceAdd, Nat.reduceLeDiff, Nat.zero_add, Nat.add_zero, aeqK, agEq, scEq, boxVK, newVK, exc, vc_agg, vc_int, vc_bool, vc_str, vc_ptr, vc_sl, vc_fn, boxOf, adInf, List.reverse_cons, List.reverse_nil, List.nil_append, List.cons_append, extK, Bool.and_true, Bool.true_and, Bool.not_true, Bool.not_false, resT, resVs, resV, true_and, and_true, storeK, spl_nil, spl_z, spl_1, spl_2, spl_3, spl_4, spl_5, spl_6, spl_7, spl_8, scal_int, scal_bool, scal_str, scal_nil, implies_true, Bool.and_self, Post_ret, Post_normal, PostS_ret, PostS_normal, retT_true, retT_false, flat_bool, flat_int, flat_str, List.take_length, decide_true, decide_false, Option.some.injEq, Value.bool.injEq, Value.int.injEq, Bool.false_and, Bool.and_false, not_false_eq_true, not_true_eq_false, toIntK, List.length_set, Nat.reduceMul, Bool.not_eq_true, Bool.not_eq_false, List.all_cons, List.all_nil, exps, fillL, buildK, strK, nilcK, fnK, callVT, List.size_toArray, List.append_nil, List.singleton_append, boxOK, newOK, scal_nil, List.isEmpty_nil, List.isEmpty_cons, mkVK, mkOK, mkCells, zeros_0, zeros_1, zeros_2, zeros_3, zeros_4, List.map_cons, List.map_nil, h0, h1, h5, hl.len]
      refine brT.intro (fun h2 => ?_) (fun h2 => ?_) <;> simp only [go_nil, go_blk, go_skip, go_ret, go_exit, go_seq, go_block, go_reg, go_r0, go_r, go_d0, go_d, go_cond, go_o, go_g, aft_some, cnd_bool, grd_bool, grd_tup, brT_true, brT_false, brT_not, thr_exit, thr_c, thr_nil, stp, stepK, movK, mv1, ex, exv, exvs, upd_some, upd_none, ini, St.val, binK, binV, ofV, pickK, unK, unV, beqK, beq_true, beq_false, if_true, if_false, List.getElem?_cons_zero, List.getElem?_cons_succ, ↓reduceIte, Nat.reduceEqDiff, reduceCtorEq, loadK, adr, deref, Ad.fv, Ad.live, fadrK, List.length_cons, List.length_nil, List.drop_zero, List.drop_succ_cons, List.take_succ_cons, List.take_zero, Nat.reduceAdd, Nat.reduceLeDiff, Nat.zero_add, Nat.add_zero, aeqK, agEq, scEq, boxVK, newVK, exc, vc_agg, vc_int, vc_bool, vc_str, vc_ptr, vc_sl, vc_fn, boxOf, adInf, List.reverse_cons, List.reverse_nil, List.nil_append, List.cons_append, extK, Bool.and_true, Bool.true_and, Bool.not_true, Bool.not_false, resT, resVs, resV, true_and, and_true, storeK, spl_nil, spl_z, spl_1, spl_2, spl_3, spl_4, spl_5, spl_6, spl_7, spl_8, scal_int, scal_bool, scal_str, scal_nil, implies_true, Bool.and_self, Post_ret, Post_normal, PostS_ret, PostS_normal, retT_true, retT_false, flat_bool, flat_int, flat_str, List.take_length, decide_true, decide_false, Option.some.injEq, Value.bool.injEq, Value.int.injEq, Bool.false_and, Bool.and_false, not_false_eq_true, not_true_eq_false, toIntK, List.length_set, Nat.reduceMul, Bool.not_eq_true, Bool.not_eq_false, List.all_cons, List.all_nil, exps, fillL, buildK, strK, nilcK, fnK, callVT, List.size_toArray, List.append_nil, List.singleton_append, boxOK, newOK, scal_nil, List.isEmpty_nil, List.isEmpty_cons, mkVK, mkOK, mkCells, zeros_0, zeros_1, zeros_2, zeros_3, zeros_4, List.map_cons, List.map_nil, h0, h1, h5]
      · have h3 : i < l.length := by simpa using h2
        have h4 : i < k.length := by omega
        obtain ⟨id, p, o, ho, hr, hia⟩ := hl.int (List.getElem?_eq_getElem h3)
        obtain ⟨id2, p2, o2, ho2, hr2, hia2⟩ := hk.int (List.getElem?_eq_getElem h4)
        refine go_draw ?_
        simp only [go_nil, go_blk, go_skip, go_ret, go_exit, go_seq, go_block, go_reg, go_r0, go_r, go_d0, go_d, go_cond, go_o, go_g, aft_some, cnd_bool, grd_bool, grd_tup, brT_true, brT_false, brT_not, thr_exit, thr_c, thr_nil, stp, stepK, movK, mv1, ex, exv, exvs, upd_some, upd_none, ini, St.val, binK, binV, ofV, pickK, unK, unV, beqK, beq_true, beq_false, if_true, if_false, List.getElem?_cons_zero, List.getElem?_cons_succ, ↓reduceIte, Nat.reduceEqDiff, reduceCtorEq, loadK, adr, deref, Ad.fv, Ad.live, fadrK, List.length_cons, List.length_nil, List.drop_zero, List.drop_succ_cons, List.take_succ_cons, List.take_zero, Nat.reduceAdd, Nat.reduceLeDiff, Nat.zero_add, Nat.add_zero, aeqK, agEq, scEq, boxVK, newVK, exc, vc_agg, vc_int, vc_bool, vc_str, vc_ptr, vc_sl, vc_fn, boxOf, adInf, List.reverse_cons, List.reverse_nil, List.nil_append, List.cons_append, extK, Bool.and_true, Bool.true_and, Bool.not_true, Bool.not_false, resT, resVs, resV, true_and, and_true, storeK, spl_nil, spl_z, spl_1, spl_2, spl_3, spl_4, spl_5, spl_6, spl_7, spl_8, scal_int, scal_bool, scal_str, scal_nil, implies_true, Bool.and_self, Post_ret, Post_normal, PostS_ret, PostS_normal, retT_true, retT_false, flat_bool, flat_int, flat_str, List.take_length, decide_true, decide_false, Option.some.injEq, Value.bool.injEq, Value.int.injEq, Bool.false_and, Bool.and_false, not_false_eq_true, not_true_eq_false, toIntK, List.length_set, Nat.reduceMul, Bool.not_eq_true, Bool.not_eq_false, List.all_cons, List.all_nil, exps, fillL, buildK, strK, nilcK, fnK, callVT, List.size_toArray, List.append_nil, List.singleton_append, boxOK, newOK, scal_nil, List.isEmpty_nil, List.isEmpty_cons, mkVK, mkOK, mkCells, zeros_0, zeros_1, zeros_2, zeros_3, zeros_4, List.map_cons, List.map_nil, h0, h1, h5, hia, hH, ho, hr, hia2, ho2, hr2, hw]
        refine ⟨by rfl, brT.intro (fun h6 => ?_) (fun h6 => ?_)⟩ <;> simp only [go_nil, go_blk, go_skip, go_ret, go_exit, go_seq, go_block, go_reg, go_r0, go_r, go_d0, go_d, go_cond, go_o, go_g, aft_some, cnd_bool, grd_bool, grd_tup, brT_true, brT_false, brT_not, thr_exit, thr_c, thr_nil, stp, stepK, movK, mv1, ex, exv, exvs, upd_some, upd_none, ini, St.val, binK, binV, ofV, pickK, unK, unV, beqK, beq_true, beq_false, if_true, if_false, List.getElem?_cons_zero, List.getElem?_cons_succ, ↓reduceIte, Nat.reduceEqDiff, reduceCtorEq, loadK, adr, deref, Ad.fv, Ad.live, fadrK, List.length_cons, List.length_nil, List.drop_zero, List.drop_succ_cons, List.take_succ_cons, List.take_zero, Nat.reduceAdd, Nat.reduceLeDiff, Nat.zero_add, Nat.add_zero, aeqK, agEq, scEq, boxVK, newVK, exc, vc_agg, vc_int, vc_bool, vc_str, vc_ptr, vc_sl, vc_fn, boxOf, adInf, List.reverse_cons, List.reverse_nil, List.nil_append, List.cons_append, extK, Bool.and_true, Bool.true_and, Bool.not_true, Bool.not_false, resT, resVs, resV, true_and, and_true, storeK, spl_nil, spl_z, spl_1, spl_2, spl_3, spl_4, spl_5, spl_6, spl_7, spl_8, scal_int, scal_bool, scal_str, scal_nil, implies_true, Bool.and_self, Post_ret, Post_normal, PostS_ret, PostS_normal, retT_true, retT_false, flat_bool, flat_int, flat_str, List.take_length, decide_true, decide_false, Option.some.injEq, Value.bool.injEq, Value.int.injEq, Bool.false_and, Bool.and_false, not_false_eq_true, not_true_eq_false, toIntK, List.length_set, Nat.reduceMul, Bool.not_eq_true, Bool.not_eq_false, List.all_cons, List.all_nil, exps, fillL, buildK, strK, nilcK, fnK, callVT, List.size_toArray, List.append_nil, List.singleton_append, boxOK, newOK, scal_nil, List.isEmpty_nil, List.isEmpty_cons, mkVK, mkOK, mkCells, zeros_0, zeros_1, zeros_2, zeros_3, zeros_4, List.map_cons, List.map_nil, h0, h1, h5, wrap64 ((i : Int) + 1) (by omega) (by omega)]
        · refine ⟨h3, by simp, ?_⟩
          rw [List.take_succ_eq_append_getElem h3, List.take_succ_eq_append_getElem h4, hn]
          have : l[i] = k[i] := of_decide_eq_true h6
          rw [this]
        · have : ¬ l[i] = k[i] := of_decide_eq_false h6
          have : ¬ l = k := fun e => by subst e; exact this rfl
          simp [this]
      · have h3 : ¬ i < l.length := by simpa using h2
        rw [List.take_of_length_le (by omega), List.take_of_length_le (by omega)] at hn
        exact ⟨hH, hn⟩
    · rintro s ⟨hH, hn⟩
      simp only [go_nil, go_blk, go_skip, go_ret, go_exit, go_seq, go_block, go_reg, go_r0, go_r, go_d0, go_d, go_cond, go_o, go_g, aft_some, cnd_bool, grd_bool, grd_tup, brT_true, brT_false, brT_not, thr_exit, thr_c, thr_nil, stp, stepK, movK, mv1, ex, exv, exvs, upd_some, upd_none, ini, St.val, binK, binV, ofV, pickK, unK, unV, beqK, beq_true, beq_false, if_true, if_false, List.getElem?_cons_zero, List.getElem?_cons_succ, ↓reduceIte, Nat.reduceEqDiff, reduceCtorEq, loadK, adr, deref, Ad.fv, Ad.live, fadrK, List.length_cons, List.length_nil, List.drop_zero, List.drop_succ_cons, List.take_succ_cons, List.take_zero, Nat.reduceAdd, Nat.reduceLeDiff, Nat.zero_add, Nat.add_zero, aeqK, agEq, scEq, boxVK, newVK, exc, vc_agg, vc_int, vc_bool, vc_str, vc_ptr, vc_sl, vc_fn, boxOf, adInf, List.reverse_cons, List.reverse_nil, List.nil_append, List.cons_append, extK, Bool.and_true, Bool.true_and, Bool.not_true, Bool.not_false, resT, resVs, resV, true_and, and_true, storeK, spl_nil, spl_z, spl_1, spl_2, spl_3, spl_4, spl_5, spl_6, spl_7, spl_8, scal_int, scal_bool, scal_str, scal_nil, implies_true, Bool.and_self, Post_ret, Post_normal, PostS_ret, PostS_normal, retT_true, retT_false, flat_bool, flat_int, flat_str, List.take_length, decide_true, decide_false, Option.some.injEq, Value.bool.injEq, Value.int.injEq, Bool.false_and, Bool.and_false, not_false_eq_true, not_true_eq_false, toIntK, List.length_set, Nat.reduceMul, Bool.not_eq_true, Bool.not_eq_false, List.all_cons, List.all_nil, exps, fillL, buildK, strK, nilcK, fnK, callVT, List.size_toArray, List.append_nil, List.singleton_append, boxOK, newOK, scal_nil, List.isEmpty_nil, List.isEmpty_cons, mkVK, mkOK, mkCells, zeros_0, zeros_1, zeros_2, zeros_3, zeros_4, List.map_cons, List.map_nil, hH, hn]
  · have : ¬ l = k := fun e => by subst e; simp at h1
    simp [this]

theorem f21 {m : Md} {H : Hp} {v : Value} {l : List Int} (hl : SlI H v l) (hle : l.length ≤ 1048576) (hw : Wr m H) : Fun EE m 21 [v] H fun r H' => FreshS eI 1 H r H' l := by
  refine fun_f rfl rfl k21 (by simp [c21]) ?_
  obtain ⟨g1, g2⟩ := make_sl (R := En eI) (esz := 1) (H := H) (z := 0) (zero := [.int .i64 0]) (n := l.length) (bytes := 8) rfl rfl (by unfold room; omega) (by unfold room; omega)
  simp only [go_nil, go_blk, go_skip, go_ret, go_exit, go_seq, go_block, go_reg, go_r0, go_r, go_d0, go_d, go_cond, go_o, go_g, aft_some, cnd_bool, grd_bool, grd_tup, brT_true, brT_false, brT_not, thr_exit, thr_c, thr_nil, stp, stepK, movK, mv1, ex, exv, exvs, upd_some, upd_none, ini, St.val, binK, binV, ofV, pickK, unK, unV, beqK, beq_true, beq_false, if_true, if_false, List.getElem?_cons_zero, List.getElem?_cons_succ, ↓reduceIte, Nat.reduceEqDiff, reduceCtorEq, loadK, adr, deref, Ad.fv, Ad.live, fadrK, List.length_cons, List.length_nil, List.drop_zero, List.drop_succ_cons, List.take_succ_cons, List.take_zero, Nat.reduceAdd, Nat.reduceLeDiff, Nat.zero_add, Nat.add_zero, aeqK, agEq, scEq, boxVK, newVK, exc, vc_agg, vc_int, vc_bool, vc_str, vc_ptr, vc_sl, vc_fn, boxOf, adInf, List.reverse_cons, List.reverse_nil, List.nil_append, List.cons_append, extK, Bool.and_true, Bool.true_and, Bool.not_true, Bool.not_false, resT, resVs, resV, true_and, and_true, storeK, spl_nil, spl_z, spl_1, spl_2, spl_3, spl_4, spl_5, spl_6, spl_7, spl_8, scal_int, scal_bool, scal_str, scal_nil, implies_true, Bool.and_self, Post_ret, Post_normal, PostS_ret, PostS_normal, retT_true, retT_false, flat_bool, flat_int, flat_str, List.take_length, decide_true, decide_false, Option.some.injEq, Value.bool.injEq, Value.int.injEq, Bool.false_and, Bool.and_false, not_false_eq_true, not_true_eq_false, toIntK, List.length_set, Nat.reduceMul, Bool.not_eq_true, Bool.not_eq_false, List.all_cons, List.all_nil, exps, fillL, buildK, strK, nilcK, fnK, callVT, List.size_toArray, List.append_nil, List.singleton_append, boxOK, newOK, scal_nil, List.isEmpty_nil, List.isEmpty_cons, mkVK, mkOK, mkCells, zeros_0, zeros_1, zeros_2, zeros_3, zeros_4, List.map_cons, List.map_nil, c21, hl.len, g2]
  refine go_for l.length (fun i s => H <+: s.H ∧ s.ρ 0 = .val v ∧ s.ρ 3 = .val (.slice (some ⟨H.length, 0, some 1⟩) l.length (l.length * 1)) ∧ s.ρ 4 = .val (.int .i64 i) ∧ SlI s.H (.slice (some ⟨H.length, 0, some 1⟩) l.length (l.length * 1)) (l.take i ++ List.replicate (l.length - i) 0))
    (fun s => H <+: s.H ∧ s.ρ 3 = .val (.slice (some ⟨H.length, 0, some 1⟩) l.length (l.length * 1)) ∧ SlI s.H (.slice (some ⟨H.length, 0, some 1⟩) l.length (l.length * 1)) l) (by simpa [upd, ini] using g1) ?_ ?_
  · rintro i s hi ⟨hH, h0, h3, h4, hs⟩
    have hl' := hl.pre hH
    simp only [go_nil, go_blk, go_skip, go_ret, go_exit, go_seq, go_block, go_reg, go_r0, go_r, go_d0, go_d, go_cond, go_o, go_g, aft_some, cnd_bool, grd_bool, grd_tup, brT_true, brT_false, brT_not, thr_exit, thr_c, thr_nil, stp, stepK, movK, mv1, ex, exv, exvs, upd_some, upd_none, ini, St.val, binK, binV, ofV, pickK, unK, unV, beqK, beq_true, beq_false, if_true, if_false, List.getElem?_cons_zero, List.getElem?_cons_succ, ↓reduceIte, Nat.reduceEqDiff, reduceCtorEq, loadK, adr, deref, Ad.fv, Ad.live, fadrK, List.length_cons, List.length_nil, List.drop_zero, List.drop_succ_cons, List.take_succ_cons, List.take_zero, Nat.reduceAdd, Nat.reduceLeDiff, Nat.zero_add, Nat.add_zero, aeqK, agEq, scEq, boxVK, newVK, exc, vc_agg, vc_int, vc_bool, vc_str, vc_ptr, vc_sl, vc_fn, boxOf, adInf, List.reverse_cons, List.reverse_nil, List.nil_append, List.cons_append, extK, Bool.and_true, Bool.true_and, Bool.not_true, Bool.not_false, resT, resVs, resV, true_and, and_true, storeK, spl_nil, spl_z, spl_1, spl_2, spl_3, spl_4, spl_5, spl_6, spl_7, spl_8, scal_int, scal_bool, scal_str, scal_nil, implies_true, Bool.and_self, Post_ret, Post_normal, PostS_ret, PostS_normal, retT_true, retT_false, flat_bool, flat_int, flat_str, List.take_length, decide_true, decide_false, Option.some.injEq, Value.bool.injEq, Value.int.injEq, Bool.false_and, Bool.and_false, not_false_eq_true, not_true_eq_false, toIntK, List.length_set, Nat.reduceMul, Bool.not_eq_true, Bool.not_eq_false, List.all_cons, List.all_nil, exps, fillL, buildK, strK, nilcK, fnK, callVT, List.size_toArray, List.append_nil, List.singleton_append, boxOK, newOK, scal_nil, List.isEmpty_nil, List.isEmpty_cons, mkVK, mkOK, mkCells, zeros_0, zeros_1, zeros_2, zeros_3, zeros_4, List.map_cons, List.map_nil, h0, h3, h4, hl'.len]
    refine brT.intro (fun h1 => ?_) (fun h1 => ?_) <;> simp only [go_nil, go_blk, go_skip, go_ret, go_exit, go_seq, go_block, go_reg, go_r0, go_r, go_d0, go_d, go_cond, go_o, go_g, aft_some, cnd_bool, grd_bool, grd_tup, brT_true, brT_false, brT_not, thr_exit, thr_c, thr_nil, stp, stepK, movK, mv1, ex, exv, exvs, upd_some, upd_none, ini, St.val, binK, binV, ofV, pickK, unK, unV, beqK, beq_true, beq_false, if_true, if_false, List.getElem?_cons_zero, List.getElem?_cons_succ, ↓reduceIte, Nat.reduceEqDiff, reduceCtorEq, loadK, adr, deref, Ad.fv, Ad.live, fadrK, List.length_cons, List.length_nil, List.drop_zero, List.drop_succ_cons, List.take_succ_cons, List.take_zero, Nat.reduceAdd, Nat.reduceLeDiff, Nat.zero_add, Nat.add_zero, aeqK, agEq, scEq, boxVK, newVK, exc, vc_agg, vc_int, vc_bool, vc_str, vc_ptr, vc_sl, vc_fn, boxOf, adInf, List.reverse_cons, List.reverse_nil, List.nil_append, List.cons_append, extK, Bool.and_true, Bool.true_and, Bool.not_true, Bool.not_false, resT, resVs, resV, true_and, and_true, storeK, spl_nil, spl_z, spl_1, spl_2, spl_3, spl_4, spl_5, spl_6, spl_7, spl_8, scal_int, scal_bool, scal_str, scal_nil, implies_true, Bool.and_self, Post_ret, Post_normal, PostS_ret, PostS_normal, retT_true, retT_false, flat_bool, flat_int, flat_str, List.take_length, decide_true, decide_false, Option.some.injEq, Value.bool.injEq, Value.int.injEq, Bool.false_and, Bool.and_false, not_false_eq_true, not_true_eq_false, toIntK, List.length_set, Nat.reduceMul, Bool.not_eq_true, Bool.not_eq_false, List.all_cons, List.all_nil, exps, fillL, buildK, strK, nilcK, fnK, callVT, List.size_toArray, List.append_nil, List.singleton_append, boxOK, newOK, scal_nil, List.isEmpty_nil, List.isEmpty_cons, mkVK, mkOK, mkCells, zeros_0, zeros_1, zeros_2, zeros_3, zeros_4, List.map_cons, List.map_nil, h0, h3, h4]
    · have h2 : i < l.length := by simpa using h1
      obtain ⟨id, p, o, ho, hr, hia⟩ := hl'.int (List.getElem?_eq_getElem h2)
      obtain ⟨id2, p2, o2, ho2, hp2, hid, hia2, hst⟩ := hs.store (i := i) (by simp; omega)
      have hw' : Wr m s.H := hw.pre hH
      have hid2 : id2 = H.length := by simpa [idsOf] using hid.symm
      have hwid : m.wr id2 = true := hw id2 (by omega)
      simp only [go_nil, go_blk, go_skip, go_ret, go_exit, go_seq, go_block, go_reg, go_r0, go_r, go_d0, go_d, go_cond, go_o, go_g, aft_some, cnd_bool, grd_bool, grd_tup, brT_true, brT_false, brT_not, thr_exit, thr_c, thr_nil, stp, stepK, movK, mv1, ex, exv, exvs, upd_some, upd_none, ini, St.val, binK, binV, ofV, pickK, unK, unV, beqK, beq_true, beq_false, if_true, if_false, List.getElem?_cons_zero, List.getElem?_cons_succ, ↓reduceIte, Nat.reduceEqDiff, reduceCtorEq, loadK, adr, deref, Ad.fv, Ad.live, fadrK, List.length_cons, List.length_nil, List.drop_zero, List.drop_succ_cons, List.take_succ_cons, List.take_zero, Nat.reduceAdd, Nat.reduceLeDiff, Nat.zero_add, Nat.add_zero, aeqK, agEq, scEq, boxVK, newVK, exc, vc_agg, vc_int, vc_bool, vc_str, vc_ptr, vc_sl, vc_fn, boxOf, adInf, List.reverse_cons, List.reverse_nil, List.nil_append, List.cons_append, extK, Bool.and_true, Bool.true_and, Bool.not_true, Bool.not_false, resT, resVs, resV, true_and, and_true, storeK, spl_nil, spl_z, spl_1, spl_2, spl_3, spl_4, spl_5, spl_6, spl_7, spl_8, scal_int, scal_bool, scal_str, scal_nil, implies_true, Bool.and_self, Post_ret, Post_normal, PostS_ret, PostS_normal, retT_true, retT_false, flat_bool, flat_int, flat_str, List.take_length, decide_true, decide_false, Option.some.injEq, Value.bool.injEq, Value.int.injEq, Bool.false_and, Bool.and_false, not_false_eq_true, not_true_eq_false, toIntK, List.length_set, Nat.reduceMul, Bool.not_eq_true, Bool.not_eq_false, List.all_cons, List.all_nil, exps, fillL, buildK, strK, nilcK, fnK, callVT, List.size_toArray, List.append_nil, List.singleton_append, boxOK, newOK, scal_nil, List.isEmpty_nil, List.isEmpty_cons, mkVK, mkOK, mkCells, zeros_0, zeros_1, zeros_2, zeros_3, zeros_4, List.map_cons, List.map_nil, h0, h3, h4, hia, ho, hr, hw', hia2, ho2, hp2, hwid, wrap64 ((i : Int) + 1) (by omega) (by omega)]
      refine ⟨h2, pre_set hH (by omega), by simp, ?_⟩
      have := hst l[i] [.int .i64 l[i]] rfl rfl
      rw [List.take_succ_eq_append_getElem h2, List.append_assoc, List.singleton_append]
      rw [List.set_append_right _ _ (by simp; omega), show i - (l.take i).length = 0 by simp; omega, show l.length - i = (l.length - (i + 1)) + 1 by omega, List.replicate_succ, List.set_cons_zero] at this
      exact this
    · have h2 : ¬ i < l.length := by simpa using h1
      rw [List.take_of_length_le (by omega), show l.length - i = 0 by omega] at hs
      simp only [List.replicate_zero, List.append_nil] at hs
      exact ⟨hH, hs⟩
  · rintro s ⟨hH, h3, hs⟩
    simp only [go_nil, go_blk, go_skip, go_ret, go_exit, go_seq, go_block, go_reg, go_r0, go_r, go_d0, go_d, go_cond, go_o, go_g, aft_some, cnd_bool, grd_bool, grd_tup, brT_true, brT_false, brT_not, thr_exit, thr_c, thr_nil, stp, stepK, movK, mv1, ex, exv, exvs, upd_some, upd_none, ini, St.val, binK, binV, ofV, pickK, unK, unV, beqK, beq_true, beq_false, if_true, if_false, List.getElem?_cons_zero, List.getElem?_cons_succ, ↓reduceIte, Nat.reduceEqDiff, reduceCtorEq, loadK, adr, deref, Ad.fv, Ad.live, fadrK, List.length_cons, List.length_nil, List.drop_zero, List.drop_succ_cons, List.take_succ_cons, List.take_zero, Nat.reduceAdd, Nat.reduceLeDiff, Nat.zero_add, Nat.add_zero, aeqK, agEq, scEq, boxVK, newVK, exc, vc_agg, vc_int, vc_bool, vc_str, vc_ptr, vc_sl, vc_fn, boxOf, adInf, List.reverse_cons, List.reverse_nil, List.nil_append, List.cons_append, extK, Bool.and_true, Bool.true_and, Bool.not_true, Bool.not_false, resT, resVs, resV, true_and, and_true, storeK, spl_nil, spl_z, spl_1, spl_2, spl_3, spl_4, spl_5, spl_6, spl_7, spl_8, scal_int, scal_bool, scal_str, scal_nil, implies_true, Bool.and_self, Post_ret, Post_normal, PostS_ret, PostS_normal, retT_true, retT_false, flat_bool, flat_int, flat_str, List.take_length, decide_true, decide_false, Option.some.injEq, Value.bool.injEq, Value.int.injEq, Bool.false_and, Bool.and_false, not_false_eq_true, not_true_eq_false, toIntK, List.length_set, Nat.reduceMul, Bool.not_eq_true, Bool.not_eq_false, List.all_cons, List.all_nil, exps, fillL, buildK, strK, nilcK, fnK, callVT, List.size_toArray, List.append_nil, List.singleton_append, boxOK, newOK, scal_nil, List.isEmpty_nil, List.isEmpty_cons, mkVK, mkOK, mkCells, zeros_0, zeros_1, zeros_2, zeros_3, zeros_4, List.map_cons, List.map_nil, h3]
    exact ⟨hH, hs, .inr ⟨_, _, _, _, rfl, Nat.le_refl _⟩⟩
end Go.Proofs.Ytdplmjlbkaipiaa.Ev

/- The types of the laws' parameters: numbers. -/
namespace Go.Proofs.Ytdplmjlbkaipiaa.Ev
set_option linter.all false
open Go
set_option maxRecDepth 100000
theorem bInt : Bld Try.prog 3 1 (fun _ (n : Int) vs => En eI n vs) (fun n => (Lit.int .i64 n).wf = true) := bI.conv (fun n => n) (fun _ _ _ h => h) (fun _ h => h) (fun _ h => h)
theorem aInt : ArgB Try.prog 3 (fun _ (n : Int) v => v = .int .i64 n) (fun n => (Lit.int .i64 n).wf = true) := ArgB.int Try.underlying3 (by kernel_rfl)
end Go.Proofs.Ytdplmjlbkaipiaa.Ev

/- Code of the program's functions, as the small machine has it: written by mkcode.py. -/
namespace Go.Proofs.Ytdplmjlbkaipiaa.Ev
set_option linter.all false
open Go
def c9 : CF := ⟨27, (.seq (.reg false [⟨(some 2), .none, (.mov (.c (.bool false))), 0, []⟩]) (.seq (.reg false [⟨(some 3), .none, (.mov (.c (.int .i64 1048576))), 0, []⟩]) (.seq (.reg false [⟨(some 7), .none, (.mov (.t 0)), 0, []⟩, ⟨(some 8), .none, (.mov (.t 3)), 1, []⟩, ⟨(some 9), .none, (.call 38 [(.t 7), (.t 8)]), 2, []⟩, ⟨(some 3), .none, (.mov (.t 9)), 3, []⟩]) (.seq (.seq (.reg false [⟨(some 10), .none, (.mov (.t 3)), 0, []⟩, ⟨(some 11), .none, (.bin .lss (.t 10) (.c (.int .i64 0))), 1, []⟩]) (.cond (.t 11) (.seq (.reg false [⟨(some 2), .none, (.mov (.c (.bool true))), 0, []⟩]) .ret) .skip)) (.seq (.reg false [⟨(some 12), .none, (.mov (.t 0)), 0, []⟩, ⟨(some 13), .none, (.call 40 [(.t 12)]), 1, []⟩, ⟨(some 14), .none, (.call 39 [(.t 13)]), 2, []⟩, ⟨(some 4), .none, (.mov (.t 14)), 3, []⟩]) (.seq (.reg false [⟨(some 15), .none, (.mov (.t 0)), 0, []⟩, ⟨(some 16), .none, (.call 40 [(.t 15)]), 1, []⟩, ⟨(some 5), .none, (.mov (.t 16)), 2, []⟩]) (.seq (.reg false [⟨(some 17), .none, (.mov (.t 5)), 0, []⟩, ⟨(some 18), .none, (.call 41 [(.t 17)]), 1, []⟩, ⟨(some 6), .none, (.mov (.t 18)), 2, []⟩]) (.seq (.seq (.reg false [⟨(some 19), .none, (.mov (.t 6)), 0, []⟩, ⟨(some 20), .none, (.mov (.t 4)), 1, []⟩, ⟨(some 21), .none, (.beq true (.t 19) (.t 20)), 2, []⟩]) (.cond (.t 21) (.seq (.reg false [⟨(some 2), .none, (.mov (.c (.bool false))), 0, []⟩]) .ret) .skip)) (.seq (.seq (.reg false [⟨(some 22), .none, (.mov (.t 5)), 0, []⟩, ⟨(some 23), .none, (.mov (.t 0)), 1, []⟩, ⟨(some 24), .none, (.call 40 [(.t 23)]), 2, []⟩, ⟨(some 25), .none, (.call 42 [(.t 22), (.t 24)]), 3, []⟩, ⟨(some 26), .none, (.un .not (.t 25)), 4, []⟩]) (.cond (.t 26) (.seq (.reg false [⟨(some 2), .none, (.mov (.c (.bool false))), 0, []⟩]) .ret) .skip)) (.seq (.reg false [⟨(some 2), .none, (.mov (.c (.bool true))), 0, []⟩]) .ret)))))))))), [(.t 2)]⟩
theorem k9 : EE.fns 9 = some c9 := by kernel_rfl
def c10 : CF := ⟨69, (.seq (.reg false [⟨(some 2), .none, (.mov (.c (.bool false))), 0, []⟩]) (.seq (.reg false [⟨(some 3), .none, (.mov (.c (.int .i64 1048576))), 0, []⟩]) (.seq (.reg false [⟨(some 11), .none, (.mov (.t 0)), 0, []⟩, ⟨(some 12), .none, (.mov (.t 3)), 1, []⟩, ⟨(some 13), .none, (.call 38 [(.t 11), (.t 12)]), 2, []⟩, ⟨(some 3), .none, (.mov (.t 13)), 3, []⟩]) (.seq (.seq (.reg false [⟨(some 14), .none, (.mov (.t 3)), 0, []⟩, ⟨(some 15), .none, (.bin .lss (.t 14) (.c (.int .i64 0))), 1, []⟩]) (.cond (.t 15) (.seq (.reg false [⟨(some 2), .none, (.mov (.c (.bool true))), 0, []⟩]) .ret) .skip)) (.seq (.reg false [⟨(some 16), .none, (.mov (.t 0)), 0, []⟩, ⟨(some 17), .none, (.call 40 [(.t 16)]), 1, []⟩, ⟨(some 18), .none, (.call 43 [(.t 17)]), 2, []⟩, ⟨(some 4), .none, (.mov (.t 18)), 3, []⟩]) (.seq (.reg false [⟨(some 19), .none, (.mov (.t 0)), 0, []⟩, ⟨(some 20), .none, (.call 40 [(.t 19)]), 1, []⟩, ⟨(some 5), .none, (.mov (.t 20)), 2, []⟩]) (.seq (.reg false [⟨(some 21), .none, (.mov (.t 5)), 0, []⟩, ⟨(some 22), .none, (.call 44 [(.t 21)]), 1, []⟩, ⟨(some 6), .none, (.mov (.t 22)), 2, []⟩]) (.seq (.seq (.reg false [⟨(some 23), .none, (.mov (.t 6)), 0, []⟩, ⟨(some 24), .none, (.mov (.t 4)), 1, []⟩, ⟨(some 25), .none, (.call 23 [(.t 23), (.t 24)]), 2, []⟩, ⟨(some 26), .none, (.un .not (.t 25)), 3, []⟩]) (.cond (.t 26) (.seq (.reg false [⟨(some 2), .none, (.mov (.c (.bool false))), 0, []⟩]) .ret) .skip)) (.seq (.seq (.reg false [⟨(some 27), .none, (.mov (.t 5)), 0, []⟩, ⟨(some 28), .none, (.mov (.t 0)), 1, []⟩, ⟨(some 29), .none, (.call 40 [(.t 28)]), 2, []⟩, ⟨(some 30), .none, (.call 42 [(.t 27), (.t 29)]), 3, []⟩, ⟨(some 31), .none, (.un .not (.t 30)), 4, []⟩]) (.cond (.t 31) (.seq (.reg false [⟨(some 2), .none, (.mov (.c (.bool false))), 0, []⟩]) .ret) .skip)) (.seq (.reg false [⟨(some 7), .none, (.mov (.c (.int .i64 1))), 0, []⟩]) (.seq (.reg false [⟨(some 32), .none, (.mov (.t 5)), 0, []⟩, ⟨(some 33), .none, (.mov (.t 7)), 1, []⟩, ⟨(some 34), .none, (.call 45 [(.t 32), (.t 33)]), 2, []⟩, ⟨(some 7), .none, (.mov (.t 34)), 3, []⟩]) (.seq (.seq (.reg false [⟨(some 35), .none, (.mov (.t 7)), 0, []⟩, ⟨(some 36), .none, (.bin .lss (.t 35) (.c (.int .i64 0))), 1, []⟩, ⟨(some 37), .none, (.mov (.t 36)), 2, []⟩, ⟨(some 38), (.some (37, false)), (.mov (.t 6)), 3, []⟩, ⟨(some 39), (.some (37, false)), (.mov (.t 4)), 4, []⟩, ⟨(some 40), (.some (37, false)), (.call 23 [(.t 38), (.t 39)]), 5, []⟩, ⟨(some 41), (.some (37, false)), (.un .not (.t 40)), 6, []⟩, ⟨(some 42), .none, (.pick (.t 37) (.c (.bool true)) (.t 41)), 7, []⟩]) (.cond (.t 42) (.seq (.reg false [⟨(some 2), .none, (.mov (.c (.bool false))), 0, []⟩]) .ret) .skip)) (.seq (.reg false [⟨(some 8), .none, (.mov (.c (.int .i64 1))), 0, []⟩]) (.seq (.reg false [⟨(some 43), .none, (.mov (.t 6)), 0, []⟩, ⟨(some 44), .none, (.mov (.t 8)), 1, []⟩, ⟨(some 45), .none, (.call 27 [(.t 43), (.t 44)]), 2, []⟩, ⟨(some 8), .none, (.mov (.t 45)), 3, []⟩]) (.seq (.reg false [⟨(some 9), .none, (.mov (.c (.int .i64 1))), 0, []⟩]) (.seq (.reg false [⟨(some 46), .none, (.mov (.t 6)), 0, []⟩, ⟨(some 47), .none, (.mov (.t 9)), 1, []⟩, ⟨(some 48), .none, (.call 28 [(.t 46), (.t 47)]), 2, []⟩, ⟨(some 9), .none, (.mov (.t 48)), 3, []⟩]) (.seq (.seq (.reg false [⟨(some 49), .none, (.mov (.t 9)), 0, []⟩, ⟨(some 50), .none, (.bin .lss (.t 49) (.c (.int .i64 0))), 1, []⟩]) (.cond (.t 50) (.seq (.reg false [⟨(some 2), .none, (.mov (.c (.bool false))), 0, []⟩]) .ret) .skip)) (.seq (.seq (.reg false [⟨(some 51), .none, (.mov (.t 9)), 0, []⟩, ⟨(some 52), .none, (.mov (.t 8)), 1, []⟩, ⟨(some 53), .none, (.bin .neq (.t 51) (.t 52)), 2, []⟩]) (.cond (.t 53) (.seq (.reg false [⟨(some 2), .none, (.mov (.c (.bool false))), 0, []⟩]) .ret) .skip)) (.seq (.reg false [⟨(some 54), .none, (.mov (.t 0)), 0, []⟩, ⟨(some 55), .none, (.call 40 [(.t 54)]), 1, []⟩, ⟨(some 56), .none, (.call 44 [(.t 55)]), 2, []⟩, ⟨(some 10), .none, (.mov (.t 56)), 3, []⟩]) (.seq (.seq (.reg false [⟨(some 57), .none, (.mov (.t 10)), 0, []⟩, ⟨(some 58), .none, (.mov (.t 4)), 1, []⟩, ⟨(some 59), .none, (.call 23 [(.t 57), (.t 58)]), 2, []⟩, ⟨(some 60), .none, (.un .not (.t 59)), 3, []⟩]) (.cond (.t 60) (.seq (.reg false [⟨(some 2), .none, (.mov (.c (.bool false))), 0, []⟩]) .ret) .skip)) (.seq (.reg false [⟨(some 9), .none, (.mov (.c (.int .i64 1))), 0, []⟩]) (.seq (.reg false [⟨(some 61), .none, (.mov (.t 6)), 0, []⟩, ⟨(some 62), .none, (.mov (.t 9)), 1, []⟩, ⟨(some 63), .none, (.call 28 [(.t 61), (.t 62)]), 2, []⟩, ⟨(some 9), .none, (.mov (.t 63)), 3, []⟩]) (.seq (.seq (.reg false [⟨(some 64), .none, (.mov (.t 9)), 0, []⟩, ⟨(some 65), .none, (.bin .lss (.t 64) (.c (.int .i64 0))), 1, []⟩]) (.cond (.t 65) (.seq (.reg false [⟨(some 2), .none, (.mov (.c (.bool false))), 0, []⟩]) .ret) .skip)) (.seq (.seq (.reg false [⟨(some 66), .none, (.mov (.t 9)), 0, []⟩, ⟨(some 67), .none, (.mov (.t 8)), 1, []⟩, ⟨(some 68), .none, (.bin .neq (.t 66) (.t 67)), 2, []⟩]) (.cond (.t 68) (.seq (.reg false [⟨(some 2), .none, (.mov (.c (.bool false))), 0, []⟩]) .ret) .skip)) (.seq (.reg false [⟨(some 2), .none, (.mov (.c (.bool true))), 0, []⟩]) .ret))))))))))))))))))))))))), [(.t 2)]⟩
theorem k10 : EE.fns 10 = some c10 := by kernel_rfl
def c38 : CF := ⟨27, (.seq (.reg false [⟨(some 4), .none, (.mov (.c (.int .i64 0))), 0, []⟩]) (.seq (.reg false [⟨(some 6), .none, (.mov (.t 1)), 0, []⟩, ⟨(some 7), .none, (.mov (.t 0)), 1, []⟩, ⟨(some 8), .none, (.lenS (.t 7)), 2, []⟩, ⟨(some 9), .none, (.bin .sub (.t 6) (.t 8)), 3, []⟩, ⟨(some 1), .none, (.mov (.t 9)), 4, []⟩]) (.seq (.seq (.reg false [⟨(some 10), .none, (.mov (.t 1)), 0, []⟩, ⟨(some 11), .none, (.bin .lss (.t 10) (.c (.int .i64 0))), 1, []⟩]) (.cond (.t 11) (.seq (.reg false [⟨(some 4), .none, (.mov (.c (.int .i64 (-1)))), 0, []⟩]) .ret) .skip)) (.seq (.seq (.reg false [⟨(some 5), .none, (.mov (.c (.int .i64 0))), 0, []⟩]) (.block 0 (.loop (.seq (.seq (.reg false [⟨(some 12), .none, (.mov (.t 5)), 0, []⟩, ⟨(some 13), .none, (.mov (.t 0)), 1, []⟩, ⟨(some 14), .none, (.lenS (.t 13)), 2, []⟩, ⟨(some 15), .none, (.bin .lss (.t 12) (.t 14)), 3, []⟩]) (.cond (.t 15) .skip (.exit 0))) (.seq (.block 1 (.seq (.reg false [⟨(some 18), .none, (.mov (.t 0)), 0, []⟩, ⟨(some 19), .none, (.mov (.t 5)), 1, []⟩, ⟨(some 20), .none, (.iadr 2 (.t 18) (.t 19)), 2, []⟩, ⟨(some 21), .none, (.load 2 true (.t 20)), 3, []⟩, ⟨(some 22), .none, (.mov (.t 1)), 4, []⟩, ⟨(some 23), .none, (.call 71 [(.t 21), (.t 22)]), 5, []⟩, ⟨(some 1), .none, (.mov (.t 23)), 6, []⟩]) (.seq (.reg false [⟨(some 24), .none, (.mov (.t 1)), 0, []⟩, ⟨(some 25), .none, (.bin .lss (.t 24) (.c (.int .i64 0))), 1, []⟩]) (.cond (.t 25) (.seq (.reg false [⟨(some 4), .none, (.mov (.c (.int .i64 (-1)))), 0, []⟩]) .ret) .skip)))) (.reg false [⟨(some 16), .none, (.mov (.t 5)), 0, []⟩, ⟨(some 17), .none, (.bin .add (.t 16) (.c (.int .i64 1))), 1, []⟩, ⟨(some 5), .none, (.mov (.t 17)), 2, []⟩])))))) (.seq (.reg false [⟨(some 26), .none, (.mov (.t 1)), 0, []⟩, ⟨(some 4), .none, (.mov (.t 26)), 1, []⟩]) .ret))))), [(.t 4)]⟩
theorem k38 : EE.fns 38 = some c38 := by kernel_rfl
def c39 : CF := ⟨32, (.seq (.reg false [⟨(some 2), .none, (.mov (.c (.bool false))), 0, []⟩]) (.seq (.seq (.reg false [⟨(some 4), .none, (.mov (.t 0)), 0, []⟩, ⟨(some 5), .none, (.lenS (.t 4)), 1, []⟩, ⟨(some 6), .none, (.bin .gtr (.t 5) (.c (.int .i64 8))), 2, []⟩]) (.cond (.t 6) (.seq (.reg false [⟨(some 2), .none, (.mov (.c (.bool false))), 0, []⟩]) .ret) .skip)) (.seq (.seq (.reg false [⟨(some 3), .none, (.mov (.c (.int .i64 0))), 0, []⟩]) (.block 0 (.loop (.seq (.seq (.reg false [⟨(some 7), .none, (.mov (.t 3)), 0, []⟩, ⟨(some 8), .none, (.mov (.t 0)), 1, []⟩, ⟨(some 9), .none, (.lenS (.t 8)), 2, []⟩, ⟨(some 10), .none, (.bin .lss (.t 7) (.t 9)), 3, []⟩]) (.cond (.t 10) .skip (.exit 0))) (.seq (.block 1 (.seq (.reg false [⟨(some 13), .none, (.mov (.t 0)), 0, []⟩, ⟨(some 14), .none, (.mov (.t 3)), 1, []⟩, ⟨(some 15), .none, (.iadr 2 (.t 13) (.t 14)), 2, []⟩, ⟨(some 16), .none, (.fadr 0 (.t 15)), 3, []⟩, ⟨(some 17), .none, (.load 1 false (.t 16)), 4, []⟩, ⟨(some 18), .none, (.call 72 [(.t 17), (.c (.int .i64 30))]), 5, []⟩, ⟨(some 19), .none, (.un .not (.t 18)), 6, []⟩, ⟨(some 20), .none, (.mov (.t 19)), 7, []⟩, ⟨(some 21), (.some (20, false)), (.mov (.t 0)), 8, []⟩, ⟨(some 22), (.some (20, false)), (.mov (.t 3)), 9, []⟩, ⟨(some 23), (.some (20, false)), (.iadr 2 (.t 21) (.t 22)), 10, []⟩, ⟨(some 24), (.some (20, false)), (.fadr 1 (.t 23)), 11, []⟩, ⟨(some 25), (.some (20, false)), (.load 1 false (.t 24)), 12, []⟩, ⟨(some 26), (.some (20, false)), (.mov (.t 0)), 13, []⟩, ⟨(some 27), (.some (20, false)), (.lenS (.t 26)), 14, []⟩, ⟨(some 28), (.some (20, false)), (.bin .sub (.t 27) (.c (.int .i64 1))), 15, []⟩, ⟨(some 29), (.some (20, false)), (.call 72 [(.t 25), (.t 28)]), 16, []⟩, ⟨(some 30), (.some (20, false)), (.un .not (.t 29)), 17, []⟩, ⟨(some 31), .none, (.pick (.t 20) (.c (.bool true)) (.t 30)), 18, []⟩]) (.cond (.t 31) (.seq (.reg false [⟨(some 2), .none, (.mov (.c (.bool false))), 0, []⟩]) .ret) .skip))) (.reg false [⟨(some 11), .none, (.mov (.t 3)), 0, []⟩, ⟨(some 12), .none, (.bin .add (.t 11) (.c (.int .i64 1))), 1, []⟩, ⟨(some 3), .none, (.mov (.t 12)), 2, []⟩])))))) (.seq (.reg false [⟨(some 2), .none, (.mov (.c (.bool true))), 0, []⟩]) .ret)))), [(.t 2)]⟩
theorem k39 : EE.fns 39 = some c39 := by kernel_rfl
def c40 : CF := ⟨23, (.seq (.reg false [⟨(some 2), .none, (.mov (.c (.slice .none 0 0))), 0, []⟩]) (.seq (.reg false [⟨(some 5), .none, (.mov (.t 0)), 0, []⟩, ⟨(some 6), .none, (.lenS (.t 5)), 1, []⟩, ⟨(some 7), .none, (.makeS 2 48 [(.slice .none 0 0), (.slice .none 0 0)] (.t 6) (.t 6)), 2, []⟩, ⟨(some 3), .none, (.mov (.t 7)), 3, []⟩]) (.seq (.seq (.reg false [⟨(some 4), .none, (.mov (.c (.int .i64 0))), 0, []⟩]) (.block 0 (.loop (.seq (.seq (.reg false [⟨(some 8), .none, (.mov (.t 4)), 0, []⟩, ⟨(some 9), .none, (.mov (.t 0)), 1, []⟩, ⟨(some 10), .none, (.lenS (.t 9)), 2, []⟩, ⟨(some 11), .none, (.bin .lss (.t 8) (.t 10)), 3, []⟩]) (.cond (.t 11) .skip (.exit 0))) (.seq (.block 1 (.reg false [⟨(some 14), .none, (.mov (.t 3)), 0, []⟩, ⟨(some 15), .none, (.mov (.t 4)), 1, []⟩, ⟨(some 16), .none, (.mov (.t 0)), 2, []⟩, ⟨(some 17), .none, (.mov (.t 4)), 3, []⟩, ⟨(some 18), .none, (.iadr 2 (.t 16) (.t 17)), 4, []⟩, ⟨(some 19), .none, (.load 2 true (.t 18)), 5, []⟩, ⟨(some 20), .none, (.call 73 [(.t 19)]), 6, []⟩, ⟨(some 21), .none, (.iadr 2 (.t 14) (.t 15)), 7, []⟩, ⟨.none, .none, (.store 2 (.t 21) (.t 20)), 8, []⟩])) (.reg false [⟨(some 12), .none, (.mov (.t 4)), 0, []⟩, ⟨(some 13), .none, (.bin .add (.t 12) (.c (.int .i64 1))), 1, []⟩, ⟨(some 4), .none, (.mov (.t 13)), 2, []⟩])))))) (.seq (.reg false [⟨(some 22), .none, (.mov (.t 3)), 0, []⟩, ⟨(some 2), .none, (.mov (.t 22)), 1, []⟩]) .ret)))), [(.t 2)]⟩
theorem k40 : EE.fns 40 = some c40 := by kernel_rfl
def c41 : CF := ⟨34, (.seq (.reg false [⟨(some 1), .none, (.boxO (.t 0)), 0, []⟩, ⟨(some 2), .none, (.mov (.c (.bool false))), 1, []⟩]) (.seq (.seq (.reg false [⟨(some 5), .none, (.load 1 false (.t 1)), 0, []⟩, ⟨(some 6), .none, (.lenS (.t 5)), 1, []⟩, ⟨(some 7), .none, (.mov (.c (.int .i64 0))), 2, []⟩]) (.block 0 (.loop (.seq (.reg false [⟨(some 8), .none, (.bin .lss (.t 7) (.t 6)), 0, []⟩]) (.seq (.cond (.t 8) .skip (.exit 0)) (.seq (.block 1 (.seq (.reg false [⟨(some 9), .none, (.iadr 2 (.t 5) (.t 7)), 0, []⟩, ⟨(some 10), .none, (.load 2 true (.t 9)), 1, []⟩, ⟨(some 4), .none, (.newV [(.slice .none 0 0), (.slice .none 0 0)]), 2, []⟩, ⟨.none, .none, (.store 2 (.t 4) (.t 10)), 3, []⟩]) (.seq (.reg false [⟨(some 11), .none, (.fadr 0 (.t 4)), 0, []⟩, ⟨(some 12), .none, (.load 1 false (.t 11)), 1, []⟩, ⟨(some 13), .none, (.call 74 [(.t 12)]), 2, []⟩, ⟨(some 14), .none, (.un .not (.t 13)), 3, []⟩, ⟨(some 15), .none, (.mov (.t 14)), 4, []⟩, ⟨(some 16), (.some (15, false)), (.fadr 1 (.t 4)), 5, []⟩, ⟨(some 17), (.some (15, false)), (.load 1 false (.t 16)), 6, []⟩, ⟨(some 18), (.some (15, false)), (.call 75 [(.t 17)]), 7, []⟩, ⟨(some 19), (.some (15, false)), (.un .not (.t 18)), 8, []⟩, ⟨(some 20), .none, (.pick (.t 15) (.c (.bool true)) (.t 19)), 9, []⟩, ⟨(some 21), .none, (.mov (.t 20)), 10, []⟩, ⟨(some 22), (.some (21, false)), (.fadr 1 (.t 4)), 11, []⟩, ⟨(some 23), (.some (21, false)), (.load 1 false (.t 22)), 12, []⟩, ⟨(some 24), (.some (21, false)), (.load 1 false (.t 1)), 13, []⟩, ⟨(some 25), (.some (21, false)), (.lenS (.t 24)), 14, []⟩, ⟨(some 26), (.some (21, false)), (.fn 77 [(.t 1)]), 15, []⟩, ⟨(some 27), (.some (21, false)), (.call 76 [(.t 23), (.t 25), (.t 26)]), 16, []⟩, ⟨(some 28), (.some (21, false)), (.un .not (.t 27)), 17, []⟩, ⟨(some 29), .none, (.pick (.t 21) (.c (.bool true)) (.t 28)), 18, []⟩]) (.cond (.t 29) (.seq (.reg false [⟨(some 2), .none, (.mov (.c (.bool false))), 0, []⟩]) .ret) .skip)))) (.reg false [⟨(some 30), .none, (.bin .add (.t 7) (.c (.int .i64 1))), 0, []⟩, ⟨(some 7), .none, (.mov (.t 30)), 1, []⟩]))))))) (.seq (.reg false [⟨(some 31), .none, (.load 1 false (.t 1)), 0, []⟩, ⟨(some 32), .none, (.lenS (.t 31)), 1, []⟩, ⟨(some 33), .none, (.bin .leq (.t 32) (.c (.int .i64 8))), 2, []⟩, ⟨(some 2), .none, (.mov (.t 33)), 3, []⟩]) .ret))), [(.t 2)]⟩
theorem k41 : EE.fns 41 = some c41 := by kernel_rfl
def c42 : CF := ⟨27, (.seq (.reg false [⟨(some 4), .none, (.mov (.c (.bool false))), 0, []⟩]) (.seq (.seq (.reg false [⟨(some 6), .none, (.mov (.t 0)), 0, []⟩, ⟨(some 7), .none, (.lenS (.t 6)), 1, []⟩, ⟨(some 8), .none, (.mov (.t 1)), 2, []⟩, ⟨(some 9), .none, (.lenS (.t 8)), 3, []⟩, ⟨(some 10), .none, (.bin .neq (.t 7) (.t 9)), 4, []⟩]) (.cond (.t 10) (.seq (.reg false [⟨(some 4), .none, (.mov (.c (.bool false))), 0, []⟩]) .ret) .skip)) (.seq (.seq (.reg false [⟨(some 5), .none, (.mov (.c (.int .i64 0))), 0, []⟩]) (.block 0 (.loop (.seq (.seq (.reg false [⟨(some 11), .none, (.mov (.t 5)), 0, []⟩, ⟨(some 12), .none, (.mov (.t 0)), 1, []⟩, ⟨(some 13), .none, (.lenS (.t 12)), 2, []⟩, ⟨(some 14), .none, (.bin .lss (.t 11) (.t 13)), 3, []⟩]) (.cond (.t 14) .skip (.exit 0))) (.seq (.block 1 (.seq (.reg true [⟨(some 17), .none, (.mov (.t 0)), 0, []⟩, ⟨(some 18), .none, (.mov (.t 5)), 1, []⟩, ⟨(some 19), .none, (.iadr 2 (.t 17) (.t 18)), 2, [0, 1]⟩, ⟨(some 20), .none, (.load 2 true (.t 19)), 3, [2, 0, 1]⟩, ⟨(some 21), .none, (.mov (.t 1)), 4, []⟩, ⟨(some 22), .none, (.mov (.t 5)), 5, []⟩, ⟨(some 23), .none, (.iadr 2 (.t 21) (.t 22)), 6, [4, 5]⟩, ⟨(some 24), .none, (.load 2 true (.t 23)), 7, [6, 4, 5]⟩, ⟨(some 25), .none, (.call 79 [(.t 20), (.t 24)]), 8, [3, 2, 0, 1, 7, 6, 4, 5]⟩, ⟨(some 26), .none, (.un .not (.t 25)), 9, [8, 3, 2, 0, 1, 7, 6, 4, 5]⟩]) (.cond (.t 26) (.seq (.reg false [⟨(some 4), .none, (.mov (.c (.bool false))), 0, []⟩]) .ret) .skip))) (.reg false [⟨(some 15), .none, (.mov (.t 5)), 0, []⟩, ⟨(some 16), .none, (.bin .add (.t 15) (.c (.int .i64 1))), 1, []⟩, ⟨(some 5), .none, (.mov (.t 16)), 2, []⟩])))))) (.seq (.reg false [⟨(some 4), .none, (.mov (.c (.bool true))), 0, []⟩]) .ret)))), [(.t 4)]⟩
theorem k42 : EE.fns 42 = some c42 := by kernel_rfl
def c71 : CF := ⟨18, (.seq (.reg false [⟨(some 2), .none, (.boxV (.t 0)), 0, []⟩, ⟨(some 4), .none, (.mov (.c (.int .i64 0))), 1, []⟩]) (.seq (.reg false [⟨(some 5), .none, (.fadr 0 (.t 2)), 0, []⟩, ⟨(some 6), .none, (.load 1 false (.t 5)), 1, []⟩, ⟨(some 7), .none, (.mov (.t 1)), 2, []⟩, ⟨(some 8), .none, (.call 90 [(.t 6), (.t 7)]), 3, []⟩, ⟨(some 1), .none, (.mov (.t 8)), 4, []⟩]) (.seq (.seq (.reg false [⟨(some 9), .none, (.mov (.t 1)), 0, []⟩, ⟨(some 10), .none, (.bin .lss (.t 9) (.c (.int .i64 0))), 1, []⟩]) (.cond (.t 10) (.seq (.reg false [⟨(some 4), .none, (.mov (.c (.int .i64 (-1)))), 0, []⟩]) .ret) .skip)) (.seq (.reg false [⟨(some 11), .none, (.fadr 1 (.t 2)), 0, []⟩, ⟨(some 12), .none, (.load 1 false (.t 11)), 1, []⟩, ⟨(some 13), .none, (.mov (.t 1)), 2, []⟩, ⟨(some 14), .none, (.call 90 [(.t 12), (.t 13)]), 3, []⟩, ⟨(some 1), .none, (.mov (.t 14)), 4, []⟩]) (.seq (.seq (.reg false [⟨(some 15), .none, (.mov (.t 1)), 0, []⟩, ⟨(some 16), .none, (.bin .lss (.t 15) (.c (.int .i64 0))), 1, []⟩]) (.cond (.t 16) (.seq (.reg false [⟨(some 4), .none, (.mov (.c (.int .i64 (-1)))), 0, []⟩]) .ret) .skip)) (.seq (.reg false [⟨(some 17), .none, (.mov (.t 1)), 0, []⟩, ⟨(some 4), .none, (.mov (.t 17)), 1, []⟩]) .ret)))))), [(.t 4)]⟩
theorem k71 : EE.fns 71 = some c71 := by kernel_rfl
def c72 : CF := ⟨35, (.seq (.reg false [⟨(some 4), .none, (.mov (.c (.bool false))), 0, []⟩]) (.seq (.seq (.reg false [⟨(some 5), .none, (.mov (.c (.int .i64 0))), 0, []⟩]) (.block 0 (.loop (.seq (.seq (.reg false [⟨(some 6), .none, (.mov (.t 5)), 0, []⟩, ⟨(some 7), .none, (.mov (.t 0)), 1, []⟩, ⟨(some 8), .none, (.lenS (.t 7)), 2, []⟩, ⟨(some 9), .none, (.bin .lss (.t 6) (.t 8)), 3, []⟩]) (.cond (.t 9) .skip (.exit 0))) (.seq (.block 1 (.seq (.reg true [⟨(some 12), .none, (.mov (.t 0)), 0, []⟩, ⟨(some 13), .none, (.mov (.t 5)), 1, []⟩, ⟨(some 14), .none, (.iadr 1 (.t 12) (.t 13)), 2, [0, 1]⟩, ⟨(some 15), .none, (.load 1 false (.t 14)), 3, [2, 0, 1]⟩, ⟨(some 16), .none, (.mov (.t 1)), 4, []⟩, ⟨(some 17), .none, (.call 91 [(.t 15), (.c (.int .i64 0)), (.t 16)]), 5, [3, 2, 0, 1, 4]⟩, ⟨(some 18), .none, (.un .not (.t 17)), 6, [5, 3, 2, 0, 1, 4]⟩, ⟨(some 19), .none, (.mov (.t 18)), 7, [6, 5, 3, 2, 0, 1, 4]⟩, ⟨(some 20), (.some (19, false)), (.mov (.t 5)), 8, [7, 6, 5, 3, 2, 0, 1, 4]⟩, ⟨(some 21), (.some (19, false)), (.bin .gtr (.t 20) (.c (.int .i64 0))), 9, [8, 7, 6, 5, 3, 2, 0, 1, 4]⟩, ⟨(some 22), (.some (19, false)), (.mov (.t 21)), 10, [9, 8, 7, 6, 5, 3, 2, 0, 1, 4]⟩, ⟨(some 23), (.some (22, true)), (.mov (.t 0)), 11, [10, 9, 8, 7, 6, 5, 3, 2, 0, 1, 4]⟩, ⟨(some 24), (.some (22, true)), (.mov (.t 5)), 12, [10, 9, 8, 7, 6, 5, 3, 2, 0, 1, 4]⟩, ⟨(some 25), (.some (22, true)), (.bin .sub (.t 24) (.c (.int .i64 1))), 13, [12, 10, 9, 8, 7, 6, 5, 3, 2, 0, 1, 4]⟩, ⟨(some 26), (.some (22, true)), (.iadr 1 (.t 23) (.t 25)), 14, [11, 10, 9, 8, 7, 6, 5, 3, 2, 0, 1, 4, 13, 12]⟩, ⟨(some 27), (.some (22, true)), (.load 1 false (.t 26)), 15, [14, 11, 10, 9, 8, 7, 6, 5, 3, 2, 0, 1, 4, 13, 12]⟩, ⟨(some 28), (.some (22, true)), (.mov (.t 0)), 16, [10, 9, 8, 7, 6, 5, 3, 2, 0, 1, 4]⟩, ⟨(some 29), (.some (22, true)), (.mov (.t 5)), 17, [10, 9, 8, 7, 6, 5, 3, 2, 0, 1, 4]⟩, ⟨(some 30), (.some (22, true)), (.iadr 1 (.t 28) (.t 29)), 18, [16, 10, 9, 8, 7, 6, 5, 3, 2, 0, 1, 4, 17]⟩, ⟨(some 31), (.some (22, true)), (.load 1 false (.t 30)), 19, [18, 16, 10, 9, 8, 7, 6, 5, 3, 2, 0, 1, 4, 17]⟩, ⟨(some 32), (.some (22, true)), (.bin .geq (.t 27) (.t 31)), 20, [15, 14, 11, 10, 9, 8, 7, 6, 5, 3, 2, 0, 1, 4, 13, 12, 19, 18, 16, 17]⟩, ⟨(some 33), (.some (19, false)), (.pick (.t 22) (.t 32) (.c (.bool false))), 21, [10, 9, 8, 7, 6, 5, 3, 2, 0, 1, 4, 20, 15, 14, 11, 13, 12, 19, 18, 16, 17]⟩, ⟨(some 34), .none, (.pick (.t 19) (.c (.bool true)) (.t 33)), 22, [7, 6, 5, 3, 2, 0, 1, 4, 21, 10, 9, 8, 20, 15, 14, 11, 13, 12, 19, 18, 16, 17]⟩]) (.cond (.t 34) (.seq (.reg false [⟨(some 4), .none, (.mov (.c (.bool false))), 0, []⟩]) .ret) .skip))) (.reg false [⟨(some 10), .none, (.mov (.t 5)), 0, []⟩, ⟨(some 11), .none, (.bin .add (.t 10) (.c (.int .i64 1))), 1, []⟩, ⟨(some 5), .none, (.mov (.t 11)), 2, []⟩])))))) (.seq (.reg false [⟨(some 4), .none, (.mov (.c (.bool true))), 0, []⟩]) .ret))), [(.t 4)]⟩
theorem k72 : EE.fns 72 = some c72 := by kernel_rfl
def c73 : CF := ⟨13, (.seq (.reg false [⟨(some 1), .none, (.boxV (.t 0)), 0, []⟩, ⟨(some 2), .none, (.newV [(.slice .none 0 0), (.slice .none 0 0)]), 1, []⟩]) (.seq (.reg false [⟨(some 3), .none, (.newV [(.slice .none 0 0), (.slice .none 0 0)]), 0, []⟩]) (.seq (.reg false [⟨(some 4), .none, (.fadr 0 (.t 1)), 0, []⟩, ⟨(some 5), .none, (.load 1 false (.t 4)), 1, []⟩, ⟨(some 6), .none, (.call 21 [(.t 5)]), 2, []⟩, ⟨(some 7), .none, (.fadr 0 (.t 3)), 3, []⟩, ⟨.none, .none, (.store 1 (.t 7) (.t 6)), 4, []⟩]) (.seq (.reg false [⟨(some 8), .none, (.fadr 1 (.t 1)), 0, []⟩, ⟨(some 9), .none, (.load 1 false (.t 8)), 1, []⟩, ⟨(some 10), .none, (.call 21 [(.t 9)]), 2, []⟩, ⟨(some 11), .none, (.fadr 1 (.t 3)), 3, []⟩, ⟨.none, .none, (.store 1 (.t 11) (.t 10)), 4, []⟩]) (.seq (.reg false [⟨(some 12), .none, (.load 2 true (.t 3)), 0, []⟩, ⟨.none, .none, (.store 2 (.t 2) (.t 12)), 1, []⟩]) .ret))))), [(.cell 2 2 true)]⟩
theorem k73 : EE.fns 73 = some c73 := by kernel_rfl
def c74 : CF := ⟨9, (.seq (.reg false [⟨(some 2), .none, (.mov (.c (.bool false))), 0, []⟩]) (.seq (.reg false [⟨(some 3), .none, (.mov (.t 0)), 0, []⟩, ⟨(some 4), .none, (.call 75 [(.t 3)]), 1, []⟩, ⟨(some 5), .none, (.mov (.t 4)), 2, []⟩, ⟨(some 6), (.some (5, true)), (.mov (.t 0)), 3, []⟩, ⟨(some 7), (.some (5, true)), (.call 76 [(.t 6), (.c (.int .i64 31)), (.f 92)]), 4, []⟩, ⟨(some 8), .none, (.pick (.t 5) (.t 7) (.c (.bool false))), 5, []⟩, ⟨(some 2), .none, (.mov (.t 8)), 6, []⟩]) .ret)), [(.t 2)]⟩
theorem k74 : EE.fns 74 = some c74 := by kernel_rfl
def c75 : CF := ⟨20, (.seq (.reg false [⟨(some 2), .none, (.mov (.c (.bool false))), 0, []⟩]) (.seq (.seq (.reg false [⟨(some 3), .none, (.mov (.c (.int .i64 1))), 0, []⟩]) (.block 0 (.loop (.seq (.seq (.reg false [⟨(some 4), .none, (.mov (.t 3)), 0, []⟩, ⟨(some 5), .none, (.mov (.t 0)), 1, []⟩, ⟨(some 6), .none, (.lenS (.t 5)), 2, []⟩, ⟨(some 7), .none, (.bin .lss (.t 4) (.t 6)), 3, []⟩]) (.cond (.t 7) .skip (.exit 0))) (.seq (.block 1 (.seq (.reg true [⟨(some 10), .none, (.mov (.t 0)), 0, []⟩, ⟨(some 11), .none, (.mov (.t 3)), 1, []⟩, ⟨(some 12), .none, (.bin .sub (.t 11) (.c (.int .i64 1))), 2, [1]⟩, ⟨(some 13), .none, (.iadr 1 (.t 10) (.t 12)), 3, [0, 2, 1]⟩, ⟨(some 14), .none, (.load 1 false (.t 13)), 4, [3, 0, 2, 1]⟩, ⟨(some 15), .none, (.mov (.t 0)), 5, []⟩, ⟨(some 16), .none, (.mov (.t 3)), 6, []⟩, ⟨(some 17), .none, (.iadr 1 (.t 15) (.t 16)), 7, [5, 6]⟩, ⟨(some 18), .none, (.load 1 false (.t 17)), 8, [7, 5, 6]⟩, ⟨(some 19), .none, (.bin .geq (.t 14) (.t 18)), 9, [4, 3, 0, 2, 1, 8, 7, 5, 6]⟩]) (.cond (.t 19) (.seq (.reg false [⟨(some 2), .none, (.mov (.c (.bool false))), 0, []⟩]) .ret) .skip))) (.reg false [⟨(some 8), .none, (.mov (.t 3)), 0, []⟩, ⟨(some 9), .none, (.bin .add (.t 8) (.c (.int .i64 1))), 1, []⟩, ⟨(some 3), .none, (.mov (.t 9)), 2, []⟩])))))) (.seq (.reg false [⟨(some 2), .none, (.mov (.c (.bool true))), 0, []⟩]) .ret))), [(.t 2)]⟩
theorem k75 : EE.fns 75 = some c75 := by kernel_rfl
def c76 : CF := ⟨24, (.seq (.reg false [⟨(some 6), .none, (.mov (.c (.bool false))), 0, []⟩]) (.seq (.seq (.reg false [⟨(some 9), .none, (.mov (.t 0)), 0, []⟩, ⟨(some 10), .none, (.lenS (.t 9)), 1, []⟩, ⟨(some 11), .none, (.mov (.c (.int .i64 0))), 2, []⟩]) (.block 0 (.loop (.seq (.reg false [⟨(some 12), .none, (.bin .lss (.t 11) (.t 10)), 0, []⟩]) (.seq (.cond (.t 12) .skip (.exit 0)) (.seq (.block 1 (.seq (.reg false [⟨(some 13), .none, (.iadr 1 (.t 9) (.t 11)), 0, []⟩, ⟨(some 14), .none, (.load 1 false (.t 13)), 1, []⟩, ⟨(some 8), .none, (.mov (.t 14)), 2, []⟩]) (.seq (.reg false [⟨(some 15), .none, (.mov (.t 2)), 0, []⟩, ⟨(some 16), .none, (.mov (.t 8)), 1, []⟩, ⟨(some 17), .none, (.callV (.t 15) [(.t 16)]), 2, []⟩, ⟨(some 18), .none, (.un .not (.t 17)), 3, []⟩]) (.cond (.t 18) (.seq (.reg false [⟨(some 6), .none, (.mov (.c (.bool false))), 0, []⟩]) .ret) .skip)))) (.reg false [⟨(some 19), .none, (.bin .add (.t 11) (.c (.int .i64 1))), 0, []⟩, ⟨(some 11), .none, (.mov (.t 19)), 1, []⟩]))))))) (.seq (.reg false [⟨(some 20), .none, (.mov (.t 0)), 0, []⟩, ⟨(some 21), .none, (.lenS (.t 20)), 1, []⟩, ⟨(some 22), .none, (.mov (.t 1)), 2, []⟩, ⟨(some 23), .none, (.bin .leq (.t 21) (.t 22)), 3, []⟩, ⟨(some 6), .none, (.mov (.t 23)), 4, []⟩]) .ret))), [(.t 6)]⟩
theorem k76 : EE.fns 76 = some c76 := by kernel_rfl
def c77 : CF := ⟨9, (.seq (.reg false [⟨(some 3), .none, (.mov (.c (.bool false))), 0, []⟩]) (.seq (.reg false [⟨(some 4), .none, (.mov (.t 0)), 0, []⟩, ⟨(some 5), .none, (.load 1 false (.t 1)), 1, []⟩, ⟨(some 6), .none, (.lenS (.t 5)), 2, []⟩, ⟨(some 7), .none, (.bin .sub (.t 6) (.c (.int .i64 1))), 3, []⟩, ⟨(some 8), .none, (.call 78 [(.t 4), (.c (.int .i64 0)), (.t 7)]), 4, []⟩, ⟨(some 3), .none, (.mov (.t 8)), 5, []⟩]) .ret)), [(.t 3)]⟩
theorem k77 : EE.fns 77 = some c77 := by kernel_rfl
def c79 : CF := ⟨17, (.seq (.reg false [⟨(some 2), .none, (.boxV (.t 0)), 0, []⟩, ⟨(some 3), .none, (.boxV (.t 1)), 1, []⟩, ⟨(some 4), .none, (.mov (.c (.bool false))), 2, []⟩]) (.seq (.seq (.reg false [⟨(some 5), .none, (.fadr 0 (.t 2)), 0, []⟩, ⟨(some 6), .none, (.load 1 false (.t 5)), 1, []⟩, ⟨(some 7), .none, (.fadr 0 (.t 3)), 2, []⟩, ⟨(some 8), .none, (.load 1 false (.t 7)), 3, []⟩, ⟨(some 9), .none, (.call 23 [(.t 6), (.t 8)]), 4, []⟩, ⟨(some 10), .none, (.un .not (.t 9)), 5, []⟩]) (.cond (.t 10) (.seq (.reg false [⟨(some 4), .none, (.mov (.c (.bool false))), 0, []⟩]) .ret) .skip)) (.seq (.seq (.reg false [⟨(some 11), .none, (.fadr 1 (.t 2)), 0, []⟩, ⟨(some 12), .none, (.load 1 false (.t 11)), 1, []⟩, ⟨(some 13), .none, (.fadr 1 (.t 3)), 2, []⟩, ⟨(some 14), .none, (.load 1 false (.t 13)), 3, []⟩, ⟨(some 15), .none, (.call 23 [(.t 12), (.t 14)]), 4, []⟩, ⟨(some 16), .none, (.un .not (.t 15)), 5, []⟩]) (.cond (.t 16) (.seq (.reg false [⟨(some 4), .none, (.mov (.c (.bool false))), 0, []⟩]) .ret) .skip)) (.seq (.reg false [⟨(some 4), .none, (.mov (.c (.bool true))), 0, []⟩]) .ret)))), [(.t 4)]⟩
theorem k79 : EE.fns 79 = some c79 := by kernel_rfl
def c80 : CF := ⟨72, (.seq (.reg false [⟨(some 4), .none, (.mov (.c (.slice .none 0 0))), 0, []⟩]) (.seq (.reg false [⟨(some 10), .none, (.mov (.t 0)), 0, []⟩, ⟨(some 11), .none, (.lenS (.t 10)), 1, []⟩, ⟨(some 12), .none, (.makeS 1 1 [(.bool false)] (.t 11) (.t 11)), 2, []⟩, ⟨(some 5), .none, (.mov (.t 12)), 3, []⟩]) (.seq (.seq (.reg false [⟨(some 6), .none, (.mov (.c (.int .i64 0))), 0, []⟩]) (.block 0 (.loop (.seq (.seq (.reg false [⟨(some 13), .none, (.mov (.t 6)), 0, []⟩, ⟨(some 14), .none, (.mov (.t 0)), 1, []⟩, ⟨(some 15), .none, (.mov (.t 1)), 2, []⟩, ⟨(some 16), .none, (.iadr 2 (.t 14) (.t 15)), 3, []⟩, ⟨(some 17), .none, (.fadr 1 (.t 16)), 4, []⟩, ⟨(some 18), .none, (.load 1 false (.t 17)), 5, []⟩, ⟨(some 19), .none, (.lenS (.t 18)), 6, []⟩, ⟨(some 20), .none, (.bin .lss (.t 13) (.t 19)), 7, []⟩]) (.cond (.t 20) .skip (.exit 0))) (.seq (.block 1 (.reg false [⟨(some 23), .none, (.mov (.t 5)), 0, []⟩, ⟨(some 24), .none, (.mov (.t 0)), 1, []⟩, ⟨(some 25), .none, (.mov (.t 1)), 2, []⟩, ⟨(some 26), .none, (.iadr 2 (.t 24) (.t 25)), 3, []⟩, ⟨(some 27), .none, (.fadr 1 (.t 26)), 4, []⟩, ⟨(some 28), .none, (.load 1 false (.t 27)), 5, []⟩, ⟨(some 29), .none, (.mov (.t 6)), 6, []⟩, ⟨(some 30), .none, (.iadr 1 (.t 28) (.t 29)), 7, []⟩, ⟨(some 31), .none, (.load 1 false (.t 30)), 8, []⟩, ⟨(some 32), .none, (.iadr 1 (.t 23) (.t 31)), 9, []⟩, ⟨.none, .none, (.store 1 (.t 32) (.c (.bool true))), 10, []⟩])) (.reg false [⟨(some 21), .none, (.mov (.t 6)), 0, []⟩, ⟨(some 22), .none, (.bin .add (.t 21) (.c (.int .i64 1))), 1, []⟩, ⟨(some 6), .none, (.mov (.t 22)), 2, []⟩])))))) (.seq (.seq (.reg false [⟨(some 7), .none, (.mov (.c (.int .i64 0))), 0, []⟩]) (.block 2 (.loop (.seq (.seq (.reg false [⟨(some 33), .none, (.mov (.t 7)), 0, []⟩, ⟨(some 34), .none, (.mov (.t 0)), 1, []⟩, ⟨(some 35), .none, (.lenS (.t 34)), 2, []⟩, ⟨(some 36), .none, (.bin .lss (.t 33) (.t 35)), 3, []⟩]) (.cond (.t 36) .skip (.exit 2))) (.seq (.block 3 (.seq (.reg false [⟨(some 8), .none, (.mov (.c (.int .i64 0))), 0, []⟩]) (.block 4 (.loop (.seq (.seq (.reg false [⟨(some 39), .none, (.mov (.t 8)), 0, []⟩, ⟨(some 40), .none, (.mov (.t 0)), 1, []⟩, ⟨(some 41), .none, (.lenS (.t 40)), 2, []⟩, ⟨(some 42), .none, (.bin .lss (.t 39) (.t 41)), 3, []⟩]) (.cond (.t 42) .skip (.exit 4))) (.seq (.block 5 (.seq (.reg false [⟨(some 9), .none, (.mov (.c (.int .i64 0))), 0, []⟩]) (.block 6 (.loop (.seq (.seq (.reg false [⟨(some 45), .none, (.mov (.t 5)), 0, []⟩, ⟨(some 46), .none, (.mov (.t 8)), 1, []⟩, ⟨(some 47), .none, (.iadr 1 (.t 45) (.t 46)), 2, []⟩, ⟨(some 48), .none, (.load 1 false (.t 47)), 3, []⟩, ⟨(some 49), .none, (.mov (.t 48)), 4, []⟩, ⟨(some 50), (.some (49, true)), (.mov (.t 9)), 5, []⟩, ⟨(some 51), (.some (49, true)), (.mov (.t 0)), 6, []⟩, ⟨(some 52), (.some (49, true)), (.mov (.t 8)), 7, []⟩, ⟨(some 53), (.some (49, true)), (.iadr 2 (.t 51) (.t 52)), 8, []⟩, ⟨(some 54), (.some (49, true)), (.fadr 1 (.t 53)), 9, []⟩, ⟨(some 55), (.some (49, true)), (.load 1 false (.t 54)), 10, []⟩, ⟨(some 56), (.some (49, true)), (.lenS (.t 55)), 11, []⟩, ⟨(some 57), (.some (49, true)), (.bin .lss (.t 50) (.t 56)), 12, []⟩, ⟨(some 58), .none, (.pick (.t 49) (.t 57) (.c (.bool false))), 13, []⟩]) (.cond (.t 58) .skip (.exit 6))) (.seq (.block 7 (.reg false [⟨(some 61), .none, (.mov (.t 5)), 0, []⟩, ⟨(some 62), .none, (.mov (.t 0)), 1, []⟩, ⟨(some 63), .none, (.mov (.t 8)), 2, []⟩, ⟨(some 64), .none, (.iadr 2 (.t 62) (.t 63)), 3, []⟩, ⟨(some 65), .none, (.fadr 1 (.t 64)), 4, []⟩, ⟨(some 66), .none, (.load 1 false (.t 65)), 5, []⟩, ⟨(some 67), .none, (.mov (.t 9)), 6, []⟩, ⟨(some 68), .none, (.iadr 1 (.t 66) (.t 67)), 7, []⟩, ⟨(some 69), .none, (.load 1 false (.t 68)), 8, []⟩, ⟨(some 70), .none, (.iadr 1 (.t 61) (.t 69)), 9, []⟩, ⟨.none, .none, (.store 1 (.t 70) (.c (.bool true))), 10, []⟩])) (.reg false [⟨(some 59), .none, (.mov (.t 9)), 0, []⟩, ⟨(some 60), .none, (.bin .add (.t 59) (.c (.int .i64 1))), 1, []⟩, ⟨(some 9), .none, (.mov (.t 60)), 2, []⟩]))))))) (.reg false [⟨(some 43), .none, (.mov (.t 8)), 0, []⟩, ⟨(some 44), .none, (.bin .add (.t 43) (.c (.int .i64 1))), 1, []⟩, ⟨(some 8), .none, (.mov (.t 44)), 2, []⟩]))))))) (.reg false [⟨(some 37), .none, (.mov (.t 7)), 0, []⟩, ⟨(some 38), .none, (.bin .add (.t 37) (.c (.int .i64 1))), 1, []⟩, ⟨(some 7), .none, (.mov (.t 38)), 2, []⟩])))))) (.seq (.reg false [⟨(some 71), .none, (.mov (.t 5)), 0, []⟩, ⟨(some 4), .none, (.mov (.t 71)), 1, []⟩]) .ret))))), [(.t 4)]⟩
theorem k80 : EE.fns 80 = some c80 := by kernel_rfl
def c81 : CF := ⟨40, (.seq (.reg false [⟨(some 4), .none, (.mov (.c (.slice .none 0 0))), 0, []⟩]) (.seq (.reg false [⟨(some 9), .none, (.mov (.t 1)), 0, []⟩, ⟨(some 10), .none, (.call 86 [(.t 9)]), 1, []⟩, ⟨(some 5), .none, (.mov (.t 10)), 2, []⟩]) (.seq (.seq (.reg false [⟨(some 6), .none, (.mov (.c (.int .i64 0))), 0, []⟩]) (.block 0 (.loop (.seq (.seq (.reg false [⟨(some 11), .none, (.mov (.t 6)), 0, []⟩, ⟨(some 12), .none, (.mov (.t 5)), 1, []⟩, ⟨(some 13), .none, (.lenS (.t 12)), 2, []⟩, ⟨(some 14), .none, (.bin .lss (.t 11) (.t 13)), 3, []⟩]) (.cond (.t 14) .skip (.exit 0))) (.seq (.block 1 (.seq (.reg false [⟨(some 17), .none, (.mov (.t 0)), 0, []⟩, ⟨(some 18), .none, (.mov (.t 5)), 1, []⟩, ⟨(some 19), .none, (.mov (.t 6)), 2, []⟩, ⟨(some 20), .none, (.iadr 1 (.t 18) (.t 19)), 3, []⟩, ⟨(some 21), .none, (.load 1 false (.t 20)), 4, []⟩, ⟨(some 22), .none, (.iadr 2 (.t 17) (.t 21)), 5, []⟩, ⟨(some 23), .none, (.fadr 1 (.t 22)), 6, []⟩, ⟨(some 24), .none, (.load 1 false (.t 23)), 7, []⟩, ⟨(some 25), .none, (.lenS (.t 24)), 8, []⟩, ⟨(some 26), .none, (.mov (.c (.int .i64 0))), 9, []⟩]) (.block 2 (.loop (.seq (.reg false [⟨(some 27), .none, (.bin .lss (.t 26) (.t 25)), 0, []⟩]) (.seq (.cond (.t 27) .skip (.exit 2)) (.seq (.block 3 (.seq (.reg false [⟨(some 28), .none, (.iadr 1 (.t 24) (.t 26)), 0, []⟩, ⟨(some 29), .none, (.load 1 false (.t 28)), 1, []⟩, ⟨(some 8), .none, (.mov (.t 29)), 2, []⟩]) (.seq (.reg false [⟨(some 30), .none, (.mov (.t 5)), 0, []⟩, ⟨(some 31), .none, (.mov (.t 8)), 1, []⟩, ⟨(some 32), .none, (.call 62 [(.t 30), (.t 31)]), 2, []⟩, ⟨(some 33), .none, (.un .not (.t 32)), 3, []⟩]) (.cond (.t 33) (.reg false [⟨(some 34), .none, (.mov (.t 5)), 0, []⟩, ⟨(some 35), .none, (.mov (.t 8)), 1, []⟩, ⟨(some 36), .none, (.mkV 1 1 [(.int .i64 0)] [(0, (.t 35))]), 2, []⟩, ⟨(some 37), .none, (.app 1 8 (.t 34) (.t 36)), 3, []⟩, ⟨(some 5), .none, (.mov (.t 37)), 4, []⟩]) .skip)))) (.reg false [⟨(some 38), .none, (.bin .add (.t 26) (.c (.int .i64 1))), 0, []⟩, ⟨(some 26), .none, (.mov (.t 38)), 1, []⟩])))))))) (.reg false [⟨(some 15), .none, (.mov (.t 6)), 0, []⟩, ⟨(some 16), .none, (.bin .add (.t 15) (.c (.int .i64 1))), 1, []⟩, ⟨(some 6), .none, (.mov (.t 16)), 2, []⟩])))))) (.seq (.reg false [⟨(some 39), .none, (.mov (.t 5)), 0, []⟩, ⟨(some 4), .none, (.mov (.t 39)), 1, []⟩]) .ret)))), [(.t 4)]⟩
theorem k81 : EE.fns 81 = some c81 := by kernel_rfl
def c86 : CF := ⟨5, (.seq (.reg false [⟨(some 2), .none, (.mov (.c (.slice .none 0 0))), 0, []⟩]) (.seq (.reg false [⟨(some 3), .none, (.mov (.t 0)), 0, []⟩, ⟨(some 4), .none, (.app 1 8 (.c (.slice .none 0 0)) (.t 3)), 1, []⟩, ⟨(some 2), .none, (.mov (.t 4)), 2, []⟩]) .ret)), [(.t 2)]⟩
theorem k86 : EE.fns 86 = some c86 := by kernel_rfl
def c91 : CF := ⟨15, (.seq (.reg false [⟨(some 6), .none, (.mov (.c (.bool false))), 0, []⟩]) (.seq (.reg false [⟨(some 7), .none, (.mov (.t 0)), 0, []⟩, ⟨(some 8), .none, (.mov (.t 1)), 1, []⟩, ⟨(some 9), .none, (.bin .geq (.t 7) (.t 8)), 2, []⟩, ⟨(some 10), .none, (.mov (.t 9)), 3, []⟩, ⟨(some 11), (.some (10, true)), (.mov (.t 0)), 4, []⟩, ⟨(some 12), (.some (10, true)), (.mov (.t 2)), 5, []⟩, ⟨(some 13), (.some (10, true)), (.bin .leq (.t 11) (.t 12)), 6, []⟩, ⟨(some 14), .none, (.pick (.t 10) (.t 13) (.c (.bool false))), 7, []⟩, ⟨(some 6), .none, (.mov (.t 14)), 8, []⟩]) .ret)), [(.t 6)]⟩
theorem k91 : EE.fns 91 = some c91 := by kernel_rfl
def c92 : CF := ⟨5, (.seq (.reg false [⟨(some 2), .none, (.mov (.c (.bool false))), 0, []⟩]) (.seq (.reg false [⟨(some 3), .none, (.mov (.t 0)), 0, []⟩, ⟨(some 4), .none, (.call 78 [(.t 3), (.c (.int .i64 0)), (.c (.int .i64 30))]), 1, []⟩, ⟨(some 2), .none, (.mov (.t 4)), 2, []⟩]) .ret)), [(.t 2)]⟩
theorem k92 : EE.fns 92 = some c92 := by kernel_rfl
end Go.Proofs.Ytdplmjlbkaipiaa.Ev
