/- Texts of this proof, laid one behind the other: what each shows stands at its head. -/
import Derived.Test.YtdplmjlbkaipiaaB2
import Derived.Sort.Grow
import Derived.Test.YtdplmjlbkaipiaaProg
import Derived.Test.YtdplmjlbkaipiaaRows
/- Lists and records that come in by a law's parameters. -/
namespace Go.Proofs.Ytdplmjlbkaipiaa.Ev
set_option linter.all false
open Go Go.ChangeShapes Go.WideShapes Go.RowKit

theorem add_add (a : Addr) (m j : Nat) : (a.add m).add j = a.add (m + j) := by
  unfold Addr.add
  by_cases hm : m = 0
  · subst hm; simp
  · by_cases hj : j = 0
    · subst hj; simp [hm]
    · simp [hm, hj, Nat.add_assoc]

theorem cell_some {w : World} {a : Addr} {k : Nat} {v : Value} (h : w.cell? (a.add k) = some v) (hs : k = 0 → a.spot = none) :
    ∃ (ds : Array Value) (e : TypeId) (lo hi : Nat), w.heap[a.block]? = some (.cells ds e (lo, hi)) ∧ ds[a.off + k]? = some v := by
  have hb : (a.add k).block = a.block := by unfold Addr.add; split <;> rfl
  have ho : (a.add k).off = a.off + k := by
    unfold Addr.add
    split
    · rename_i hk; subst hk; rfl
    · rfl
  unfold World.cell? at h
  rw [hb, ho] at h
  split at h
  · rename_i c e r hc
    split at h
    · cases h
    · exact ⟨c, e, r.1, r.2, hc, h⟩
  · cases h

theorem cell_spot {w : World} {a : Addr} {v : Value} (h : w.cell? (a.add 0) = some v) : a.spot = none := by
  have : a.add 0 = a := by simp [Addr.add]
  rw [this] at h
  unfold World.cell? at h
  split at h
  · split at h
    · cases h
    · rename_i hs
      cases hsp : a.spot with
      | none => rfl
      | some x => rw [hsp] at hs; exact absurd rfl hs
  · cases h

section
variable {P : Program}

theorem Bld.slice {α : Type} {R : Hp → α → List Value → Prop} {ok : α → Prop} {t e : TypeId} {sz : Nat} (ht : P.underlying t = some (.slice e)) (hc : P.cellsOf t = 1) (he : Bld P e sz R ok) :
    Bld P t 1 (fun M l vs => ∃ v, vs = [v] ∧ Sl (R M) sz M v l) (fun l => l.length ≤ maxLen ∧ ∀ x ∈ l, ok x) := by
  refine ⟨hc, by omega, fun {M M' z vs} hp ⟨v, h1, h2⟩ => ⟨v, h1, (h2.pre hp).frame (fun a _ cs h => he.mono hp h) fun _ _ _ _ _ _ => rfl⟩, ?_⟩
  intro H enc w base held fuel cs x h hb J M hr
  rcases DataW.trod_slice ht h with ⟨rfl, _⟩ | ⟨a, len, cap, elems, rest, n, _, rfl, _, hbase, hlc, hm, hlen, hel, hre, _⟩
  · exact ⟨J, M, _, [], .refl _ _, hr, .cons .nsl .nil, by simp [Value.oneCell'], ⟨_, rfl, .inl ⟨rfl, rfl⟩⟩, by simp⟩
  · have hpos := he.pos
    have hesz := he.cells
    have hblk : Blk w := hb a len cap (by simp)
    have hread : ∀ i, i < cap → ∃ c, w.cells? base (a.add (i * sz)) sz = some c ∧ (i < len → ∃ y, DataW.trod enc P w base (fun _ => true) held n e c = some y) := fun i hi => by
      by_cases hil : i < len
      · have h1 := hel i hil
        rw [List.getElem?_eq_getElem (by omega), hesz] at h1
        obtain ⟨c, h2, h3⟩ := Option.bind_eq_some_iff.1 h1
        exact ⟨c, h2, fun _ => ⟨_, h3⟩⟩
      · obtain ⟨h1, h2⟩ := hre rfl
        have h3 := h2 (i - len) (by omega)
        rw [List.getElem?_eq_getElem (by omega), hesz, show len + (i - len) = i by omega] at h3
        obtain ⟨c, h4, h5⟩ := Option.bind_eq_some_iff.1 h3
        exact ⟨c, h4, fun h => absurd h hil⟩
    have key : ∀ m, m ≤ len → ∃ (J' : Inj) (M' : Hp) (vs rc : List Value) (z : List α), Ext J M J' M' ∧ RdRel J' M' w ∧ LRel J' M' vs rc ∧ (∀ v ∈ vs, v.oneCell' = true) ∧ vs.length = m * sz ∧
        (∀ k, k < m * sz → w.cell? (a.add k) = rc[k]?) ∧ z.length = m ∧ ∀ i x, z[i]? = some x → R M' x ((vs.drop (i * sz)).take sz) ∧ ok x := fun m => by
      induction m with
      | zero => exact fun _ => ⟨J, M, [], [], [], .refl _ _, hr, .nil, by simp, by simp, fun k hk => by omega, rfl, fun i x hx => by simp at hx⟩
      | succ m ih =>
        intro hml
        obtain ⟨J1, M1, vs1, rc1, z1, e1, r1, l1, o1, n1, c1, zl1, zr1⟩ := ih (by omega)
        obtain ⟨c, hc1, hc2⟩ := hread m (by omega)
        obtain ⟨y, hy⟩ := hc2 (by omega)
        obtain ⟨_, hcl, hcell⟩ := World.cells?_some hc1
        obtain ⟨J2, M2, vs2, z2, e2, r2, l2, o2, p2, k2⟩ := he.bld hy (fun _ _ _ _ => hblk) J1 M1 r1
        have hv2 : vs2.length = sz := by rw [l2.1, hcl]
        refine ⟨J2, M2, vs1 ++ vs2, rc1 ++ c, z1 ++ [z2], e1.trans e2, r2, (l1.keep e2.keep).append l2, fun v hv => ?_, by rw [List.length_append, n1, hv2, Nat.succ_mul], fun k hk => ?_, by simp [zl1], fun i x hx => ?_⟩
        · rcases List.mem_append.1 hv with h | h
          · exact o1 v h
          · exact o2 v h
        · have hrc : rc1.length = m * sz := by rw [← l1.1, n1]
          by_cases hkm : k < m * sz
          · rw [List.getElem?_append_left (by omega)]
            exact c1 k hkm
          · rw [Nat.succ_mul] at hk
            rw [List.getElem?_append_right (by omega), hrc, ← hcell (k - m * sz) (by omega), add_add, show m * sz + (k - m * sz) = k by omega]
        · by_cases hi : i < m
          · rw [List.getElem?_append_left (by omega)] at hx
            obtain ⟨q1, q2⟩ := zr1 i x hx
            refine ⟨?_, q2⟩
            have hle : (i + 1) * sz ≤ m * sz := Nat.mul_le_mul_right _ hi
            rw [Nat.succ_mul] at hle
            rw [List.drop_append_of_le_length (by omega), List.take_append_of_le_length (by rw [List.length_drop]; omega)]
            exact he.mono e2.1 q1
          · have hil := (List.getElem?_eq_some_iff.1 hx).1
            rw [List.length_append, List.length_singleton] at hil
            have him : i = m := by omega
            subst him
            rw [List.getElem?_append_right (by omega), zl1, Nat.sub_self] at hx
            cases hx
            refine ⟨?_, k2⟩
            rw [List.drop_append_of_le_length (by omega), List.drop_of_length_le (by omega), List.nil_append, List.take_of_length_le (by omega)]
            exact p2
    obtain ⟨J1, M1, vs, rc, z, e1, r1, l1, o1, n1, c1, zl, zr⟩ := key len (Nat.le_refl _)
    have fin : ∀ (l : Loc) (ds : Array Value) (e' : TypeId) (lo hi : Nat), w.heap[l.b]? = some (.cells ds e' (lo, hi)) → ds.size = l.sz → l.sh + vs.length ≤ l.sz → LRel J1 M1 vs ((ds.toList.drop l.sh).take vs.length) →
        ((len = 0 ∧ cap = 0) ∨ (a = ⟨l.b, l.sh + 0, none⟩ ∧ l.sh + 0 + cap * sz ≤ l.sz)) →
        ∃ (J' : Inj) (M' : Hp) (vs : List Value) (z : List α), Ext J M J' M' ∧ RdRel J' M' w ∧ LRel J' M' vs [.slice (some a) len cap] ∧ (∀ v ∈ vs, v.oneCell' = true) ∧ (∃ v, vs = [v] ∧ Sl (R M') sz M' v z) ∧ (z.length ≤ maxLen ∧ ∀ x ∈ z, ok x) := fun l ds e' lo hi h1 h2 h3 h4 h5 => by
      obtain ⟨x1, x2⟩ := r1.push h1 h2 h3 h4 o1
      refine ⟨_, _, [.slice (some ⟨M1.length, 0, some sz⟩) len (len * sz)], z, e1.trans x1, x2, .cons (.sl _ _ _ _ _ vs a cap (by simp) (by omega) hlc (Nat.mul_le_mul_right _ hlc) fun _ => ⟨l, by simp, h5⟩) .nil, by simp [Value.oneCell'], ⟨_, rfl, ?_⟩, by omega, fun y hy => ?_⟩
      · refine .inr ⟨M1.length, 0, len * sz, vs, by rw [zl], by simp, by omega, by rw [zl]; omega, by unfold maxLen at hm; omega, fun i y hy => ?_⟩
        rw [Nat.zero_add]
        exact he.mono x1.1 (zr i y hy).1
      · obtain ⟨i, hi⟩ := List.getElem?_of_mem hy
        exact (zr i y hi).2
    by_cases hcap : cap = 0
    · have hl0 : len = 0 := by omega
      obtain ⟨b, ds, e', lo, hi, hbk⟩ := hblk
      have hv0 : vs = [] := List.eq_nil_of_length_eq_zero (by rw [n1, hl0]; omega)
      refine fin ⟨b, 0, ds.size⟩ ds e' lo hi hbk rfl (by rw [hv0]; simp) ?_ (.inl ⟨hl0, hcap⟩)
      rw [hv0]
      exact ⟨by simp, fun i x y hx => by simp at hx⟩
    · obtain ⟨c0, hc0, _⟩ := hread 0 (by omega)
      obtain ⟨_, hcl0, hcell0⟩ := World.cells?_some hc0
      have q0 := hcell0 0 hpos
      rw [add_add, Nat.zero_mul, Nat.zero_add, List.getElem?_eq_getElem (by omega)] at q0
      have hspot := cell_spot q0
      obtain ⟨ds, e', lo, hi, hbk, _⟩ := cell_some q0 fun _ => hspot
      have hcells : ∀ k v, w.cell? (a.add k) = some v → ds[a.off + k]? = some v := fun k v hv => by
        obtain ⟨ds2, e2, lo2, hi2, hb2, hd2⟩ := cell_some hv fun _ => hspot
        rw [hbk] at hb2
        cases hb2
        exact hd2
      obtain ⟨c9, hc9, _⟩ := hread (cap - 1) (by omega)
      obtain ⟨_, hcl9, hcell9⟩ := World.cells?_some hc9
      have q9 := hcell9 (sz - 1) (by omega)
      rw [add_add, List.getElem?_eq_getElem (by omega)] at q9
      have hsz9 := (Array.getElem?_eq_some_iff.1 (hcells _ _ q9)).1
      have hmul : (cap - 1) * sz + sz = cap * sz := by
        rw [← Nat.succ_mul]
        congr 1
        omega
      have hlm : len * sz ≤ cap * sz := Nat.mul_le_mul_right _ hlc
      refine fin ⟨a.block, a.off, ds.size⟩ ds e' lo hi hbk rfl (by simp only; omega) ⟨?_, fun i x y hx hy => ?_⟩ (.inr ⟨?_, by simp only; omega⟩)
      · rw [List.length_take, List.length_drop, Array.length_toList]
        show vs.length = min vs.length (ds.size - a.off)
        omega
      · have hi2 := (List.getElem?_eq_some_iff.1 hx).1
        obtain ⟨y2, hy2, hr2⟩ := l1.get hx
        have := c1 i (by omega)
        rw [hy2] at this
        have h3 := hcells _ _ this
        rw [take_drop_get, if_pos hi2, Array.getElem?_toList, h3] at hy
        cases hy
        exact hr2
      · cases a
        simp only at hspot
        subst hspot
        rfl

/-- Fields in line, from an offset on. -/
structure SeqB {α : Type} (P : Program) (sz : Nat) (R : Hp → α → List Value → Prop) (ok : α → Prop) (fs : List (TypeId × Nat)) (off : Nat) : Prop where
  pos : 0 < sz
  mono : ∀ {M M' : Hp} {z : α} {vs : List Value}, M <+: M' → R M z vs → R M' z vs
  bld : ∀ {H : Type} {enc : TypeId × Value → H} {w : World} {base : Nat} {held : Bool} {fuel : Nat} {cs : List Value}, cs.length = off + sz →
    (∀ f, f ∈ fs → ∃ y, DataW.trod enc P w base (fun _ => true) held fuel f.1 ((cs.drop f.2).take (P.cellsOf f.1)) = some y) → (∀ a l c, .slice (some a) l c ∈ cs → Blk w) → ∀ (J : Inj) (M : Hp), RdRel J M w →
    ∃ (J' : Inj) (M' : Hp) (vs : List Value) (z : α), Ext J M J' M' ∧ RdRel J' M' w ∧ LRel J' M' vs (cs.drop off) ∧ (∀ v ∈ vs, v.oneCell' = true) ∧ R M' z vs ∧ ok z

theorem SeqB.one {α : Type} {R : Hp → α → List Value → Prop} {ok : α → Prop} {t : TypeId} {sz off : Nat} (h : Bld P t sz R ok) : SeqB P sz R ok [(t, off)] off :=
  ⟨h.pos, h.mono, fun {H enc w base held fuel cs} hl hf hb J M hr => by
    obtain ⟨y, hy⟩ := hf (t, off) (by simp)
    have e : (cs.drop off).take (P.cellsOf t) = cs.drop off := List.take_of_length_le (by rw [List.length_drop, h.cells]; omega)
    simp only [e] at hy
    exact h.bld hy (fun a l c hm => hb a l c (List.mem_of_mem_drop hm)) J M hr⟩

theorem SeqB.cons {α β : Type} {R1 : Hp → α → List Value → Prop} {R2 : Hp → β → List Value → Prop} {ok1 : α → Prop} {ok2 : β → Prop} {t : TypeId} {s1 s2 off off' : Nat} {fs : List (TypeId × Nat)} (h : Bld P t s1 R1 ok1) (ho : off' = off + s1) (hs : SeqB P s2 R2 ok2 fs off') :
    SeqB P (s1 + s2) (fun M (x : α × β) vs => ∃ u v, vs = u ++ v ∧ R1 M x.1 u ∧ R2 M x.2 v) (fun x => ok1 x.1 ∧ ok2 x.2) ((t, off) :: fs) off := by
  refine ⟨by have := h.pos; omega, fun {M M' z vs} hp ⟨u, v, e, a, b⟩ => ⟨u, v, e, h.mono hp a, hs.mono hp b⟩, ?_⟩
  intro H enc w base held fuel cs hl hf hb J M hr
  obtain ⟨y, hy⟩ := hf (t, off) (by simp)
  have hl' : cs.length = off + (s1 + s2) := hl
  obtain ⟨J1, M1, vs1, z1, e1, r1, l1, o1, p1, k1⟩ := h.bld hy (fun a l c hm => hb a l c (List.mem_of_mem_drop (List.mem_of_mem_take hm))) J M hr
  obtain ⟨J2, M2, vs2, z2, e2, r2, l2, o2, p2, k2⟩ := hs.bld (by rw [ho]; omega) (fun f hff => hf f (List.mem_cons_of_mem _ hff)) hb J1 M1 r1
  refine ⟨J2, M2, vs1 ++ vs2, (z1, z2), e1.trans e2, r2, ?_, fun v hv => ?_, ⟨vs1, vs2, rfl, h.mono e2.1 p1, p2⟩, k1, k2⟩
  · have := (l1.keep e2.keep).append l2
    rw [h.cells, ho, ← List.drop_drop, List.take_append_drop] at this
    exact this
  · rcases List.mem_append.1 hv with hm | hm
    · exact o1 v hm
    · exact o2 v hm

theorem Bld.struct {α : Type} {R : Hp → α → List Value → Prop} {ok : α → Prop} {t : TypeId} {sz : Nat} {fs : Array Field} (ht : P.underlying t = some (.struct fs)) (hc : P.cellsOf t = sz) (hs : SeqB P sz R ok (fs.toList.map fun f => (f.type, f.offset)) 0) : Bld P t sz R ok := by
  refine ⟨hc, hs.pos, hs.mono, fun {H enc w base held fuel cs x} h hb J M hr => ?_⟩
  obtain ⟨xs, n, _, _, hl, hxl, hx⟩ := DataW.trod_struct ht h
  have := hs.bld (enc := enc) (w := w) (base := base) (held := held) (fuel := n) (cs := cs) (by rw [hl, hc]; omega) (fun y hy => by
    obtain ⟨fl, hfl, rfl⟩ := List.mem_map.1 hy
    obtain ⟨i, hi⟩ := List.getElem?_of_mem hfl
    have hi' : fs[i]? = some fl := by rw [← hi]; simp
    have := hx i fl hi'
    have hlt : i < xs.length := by
      have := (List.getElem?_eq_some_iff.1 hi).1
      simp at this
      omega
    rw [List.getElem?_eq_getElem hlt] at this
    exact ⟨_, this⟩) hb J M hr
  simpa using this

theorem Bld.conv {α β : Type} {R : Hp → α → List Value → Prop} {R' : Hp → β → List Value → Prop} {ok : α → Prop} {ok' : β → Prop} {t : TypeId} {sz : Nat} (h : Bld P t sz R ok) (f : α → β) (hR : ∀ M z vs, R M z vs → R' M (f z) vs) (hm : ∀ {M M' : Hp} {z : β} {vs : List Value}, M <+: M' → R' M z vs → R' M' z vs) (hk : ∀ z, ok z → ok' (f z)) : Bld P t sz R' ok' :=
  ⟨h.cells, h.pos, hm, fun ht hb J M hr => by
    obtain ⟨J', M', vs, z, a1, a2, a3, a4, a5, a6⟩ := h.bld ht hb J M hr
    exact ⟨J', M', vs, f z, a1, a2, a3, a4, hR _ _ _ a5, hk _ a6⟩⟩

end
end Go.Proofs.Ytdplmjlbkaipiaa.Ev

/- A law's parameters, one by one, and the whole of it. -/
namespace Go.Proofs.Ytdplmjlbkaipiaa.Ev
set_option linter.all false
open Go Go.ChangeShapes Go.WideShapes Go.RowKit

structure ArgB {α : Type} (P : Program) (t : TypeId) (V : Hp → α → Value → Prop) (ok : α → Prop) : Prop where
  mono : ∀ {M M' : Hp} {z : α} {v : Value}, M <+: M' → V M z v → V M' z v
  arg : ∀ {H : Type} {enc : TypeId × Value → H} {w : World} {v : Value} {D : DataW H} {ps : List MemPlace} {base : Nat}, DataW.Trod enc P w 0 (fun _ => true) true t v D ps → Value.okWide P w .any base t v → ∀ (J : Inj) (M : Hp), RdRel J M w →
    ∃ (J' : Inj) (M' : Hp) (u : Value) (z : α), Ext J M J' M' ∧ RdRel J' M' w ∧ VRel J' M' u v ∧ V M' z u ∧ ok z

section
variable {P : Program}

theorem blk_of_shape {w : World} {r : Nat} {x : TypeId × Nat} (h : w.shape? r = some x) : Blk w := by
  unfold World.shape? at h
  split at h
  · rename_i c e q hc
    exact ⟨r, c, e, q.1, q.2, hc⟩
  · cases h

theorem cell_blk {w : World} {r : Reach} {base : Nat} {t : TypeId} {a : Addr} {l c : Nat} (h : Cell.okWide P w r base t (.slice (some a) l c)) : Blk w := by
  unfold Cell.okWide at h
  have h2 : Cell.ok P w r base t (.slice (some a) l c) := by
    revert h
    cases P.underlying t with
    | none => exact fun h => h
    | some d => cases d <;> exact fun h => h
  unfold Cell.ok at h2
  revert h2
  cases P.underlying t with
  | none => exact fun h => h.elim
  | some d => cases d <;> first | exact fun h => h.elim | exact fun h => by obtain ⟨_, _, _, _, row, cells, hs, _⟩ := h; exact blk_of_shape hs

theorem ArgB.one {α : Type} {R : Hp → α → List Value → Prop} {ok : α → Prop} {t : TypeId} (h : Bld P t 1 R ok) (hk : ∀ {w : World} {r : Reach} {base : Nat} {v : Value}, Value.okWide P w r base t v → v.cells = #[v] ∧ Cell.okWide P w r base t v) :
    ArgB P t (fun M z v => R M z [v]) ok :=
  ⟨h.mono, fun {H enc w v D ps base} hT hv J M hr => by
    obtain ⟨fuel, hf⟩ := hT
    obtain ⟨hc, hcell⟩ := hk hv
    rw [hc] at hf
    obtain ⟨J', M', vs, z, a1, a2, a3, a4, a5, a6⟩ := h.bld hf (fun a l c hm => by
      have h9 : Value.slice (some a) l c = v := by simpa using hm
      rw [← h9] at hcell
      exact cell_blk hcell) J M hr
    obtain ⟨u, rfl⟩ : ∃ u, vs = [u] := by
      have := a3.1
      cases vs with
      | nil => simp at this
      | cons y l => cases l with
        | nil => exact ⟨y, rfl⟩
        | cons z l => simp at this
    exact ⟨J', M', u, z, a1, a2, a3.2 0 u v rfl rfl, a5, a6⟩⟩

theorem ArgB.slice {α : Type} {R : Hp → α → List Value → Prop} {ok : α → Prop} {t e : TypeId} {sz : Nat} (ht : P.underlying t = some (.slice e)) (hc : P.cellsOf t = 1) (he : Bld P e sz R ok) :
    ArgB P t (fun M l v => Sl (R M) sz M v l) (fun l => l.length ≤ maxLen ∧ ∀ x ∈ l, ok x) := by
  have h := ArgB.one (Bld.slice ht hc he) (fun {w r base v} hv => by
    obtain ⟨a, len, cap, rfl⟩ := okWide_slice ht hv
    exact ⟨rfl, by unfold Value.okWide at hv; rw [ht] at hv; exact hv⟩)
  exact ⟨fun hp hs => by
    obtain ⟨v, e, h2⟩ := h.mono hp ⟨_, rfl, hs⟩
    cases e
    exact h2, fun hT hv J M hr => by
    obtain ⟨J', M', u, z, a1, a2, a3, ⟨v, e, h2⟩, a5⟩ := h.arg hT hv J M hr
    cases e
    exact ⟨J', M', u, z, a1, a2, a3, h2, a5⟩⟩

theorem ArgB.int {k : IntKind} {t : TypeId} (ht : P.underlying t = some (.int k)) (hc : P.cellsOf t = 1) : ArgB P t (fun _ n v => v = .int k n) (fun n => (Lit.int k n).wf = true) := by
  have h := ArgB.one (Bld.int ht hc) (fun {w r base v} hv => by
    obtain ⟨n, rfl⟩ := okWide_int ht hv
    exact ⟨rfl, by unfold Value.okWide at hv; rw [ht] at hv; exact hv⟩)
  exact ⟨fun _ h => h, fun hT hv J M hr => by
    obtain ⟨J', M', u, z, a1, a2, a3, a4, a5⟩ := h.arg hT hv J M hr
    exact ⟨J', M', u, z, a1, a2, a3, by simpa using a4, a5⟩⟩

theorem ArgB.bool {t : TypeId} (ht : P.underlying t = some .bool) (hc : P.cellsOf t = 1) : ArgB P t (fun _ b v => v = .bool b) (fun _ => True) := by
  have h := ArgB.one (Bld.bool ht hc) (fun {w r base v} hv => by
    obtain ⟨n, rfl⟩ := okWide_bool ht hv
    exact ⟨rfl, by unfold Value.okWide at hv; rw [ht] at hv; exact hv⟩)
  exact ⟨fun _ h => h, fun hT hv J M hr => by
    obtain ⟨J', M', u, z, a1, a2, a3, a4, a5⟩ := h.arg hT hv J M hr
    exact ⟨J', M', u, z, a1, a2, a3, by simpa using a4, a5⟩⟩

theorem ArgB.string {t : TypeId} (ht : P.underlying t = some .string) (hc : P.cellsOf t = 1) : ArgB P t (fun _ s v => v = .string s) (fun s => s.size ≤ maxLen) := by
  have h := ArgB.one (Bld.string ht hc) (fun {w r base v} hv => by
    obtain ⟨n, rfl⟩ := okWide_string ht hv
    exact ⟨rfl, by unfold Value.okWide at hv; rw [ht] at hv; exact hv⟩)
  exact ⟨fun _ h => h, fun hT hv J M hr => by
    obtain ⟨J', M', u, z, a1, a2, a3, a4, a5⟩ := h.arg hT hv J M hr
    exact ⟨J', M', u, z, a1, a2, a3, by simpa using a4, a5⟩⟩

theorem ArgB.struct {α : Type} {R : Hp → α → List Value → Prop} {ok : α → Prop} {t : TypeId} {sz : Nat} {fs : Array Field} (ht : P.underlying t = some (.struct fs)) (h : Bld P t sz R ok) :
    ArgB P t (fun M z v => ∃ vs, v = .agg vs ∧ R M z vs.toList) ok :=
  ⟨fun hp ⟨vs, e, hR⟩ => ⟨vs, e, h.mono hp hR⟩, fun {H enc w v D ps base} hT hv J M hr => by
    obtain ⟨fuel, hf⟩ := hT
    have hv2 := hv
    unfold Value.okWide at hv2
    rw [ht] at hv2
    obtain ⟨cs, rfl, hsz, ts, _, _, hcs⟩ := hv2
    obtain ⟨J', M', vs, z, a1, a2, a3, a4, a5, a6⟩ := h.bld hf (fun a l c hm => by
      obtain ⟨i, hi⟩ := List.getElem?_of_mem hm
      obtain ⟨u, _, hok⟩ := hcs i _ (by simpa [Value.cells] using hi)
      exact cell_blk hok) J M hr
    refine ⟨J', M', .agg vs.toArray, z, a1, a2, ?_, ⟨vs.toArray, rfl, a5⟩, a6⟩
    have hl := a3.1
    refine .agg _ _ (by simpa [Value.cells] using hl) (fun i x hx => a4 x (List.mem_of_getElem? (by simpa using hx))) fun i x y hx hy => a3.2 i x y (by simpa using hx) (by simpa [Value.cells] using hy)⟩

end
end Go.Proofs.Ytdplmjlbkaipiaa.Ev

/- Growing a slice of one's own. -/
namespace Go.Proofs.Ytdplmjlbkaipiaa.Ev
set_option linter.all false
open Go

section
variable {m : Md} {α : Type} {R : α → List Value → Prop} {esz : Nat} {H : Hp} {v : Value} {l : List α}

theorem Sl.app {N n bytes : Nat} {l2 : List α} {cs : List Value} (h : Sl R esz H v l) (ho : OwnS N v) (hN : N ≤ H.length) (hw : ∀ id, N ≤ id → m.wr id = true) (hnr : m.nr = true → cs.all scal = true) (hpos : 0 < l2.length) (hcs : cs.length = l2.length * esz)
    (hr : ∀ (i : Nat) a, l2[i]? = some a → R a ((cs.drop (i * esz)).take esz)) (hb : (l.length + l2.length) * bytes ≤ Ev.room) (hb2 : l.length + l2.length ≤ Ev.room) :
    ∃ v' H', (∀ (s : St) (x y : X), s.H = H → exv s.ρ x = some v → srcOf H esz (ex s.ρ y) = some (l2.length, cs) → appK m s esz bytes x y = some (.val v', { s with H := H' })) ∧ Sl R esz H' v' (l ++ l2) ∧ OwnS N v' ∧
      (∀ j, j < H.length → j ∉ idsOf v → H'[j]? = H[j]?) ∧ H.length ≤ H'.length ∧ (∀ j ∈ idsOf v', j ∈ idsOf v ∨ H.length ≤ j) ∧ ∀ H0 : Hp, H0.length ≤ N → H0 <+: H → H0 <+: H' := by
  have hb3 : l.length + l2.length ≤ 9223372036854775807 := by unfold Ev.room at hb2; omega
  rcases ho with rfl | ⟨id, e, ln, cap, rfl, hid⟩
  · have hl : l = [] := by
      rcases h with ⟨_, h⟩ | ⟨_, _, _, _, h, _⟩
      · exact h
      · cases h
    subst hl
    simp only [List.length_nil, Nat.zero_add] at hb hb2 hb3
    refine ⟨.slice (some ⟨H.length, 0, some esz⟩) l2.length (l2.length * esz), H ++ [cs], fun s x y hH hx hy => ?_, .inr ⟨H.length, 0, l2.length * esz, cs, by simp, by simp, by omega, by simp, by simpa using hb3, fun i a hi => ?_⟩,
      .inr ⟨_, _, _, _, rfl, hN⟩, fun j hj _ => by rw [List.getElem?_append_left hj], by simp, fun j hj => ?_, fun H0 _ hp => pre_push hp⟩
    · unfold appK
      rw [hx, hH, hy]
      simp only
      rw [if_neg (by omega), if_pos ⟨hb, hb2⟩]
    · rw [Nat.zero_add]
      exact hr i a (by simpa using hi)
    · simp [idsOf] at hj
      exact .inr (by omega)
  · rcases h with ⟨h, _⟩ | ⟨id', off, cap', o, h, hg, hoc, hlc, hroom, hrr⟩
    · cases h
    cases h
    have hidl := (List.getElem?_eq_some_iff.1 hg).1
    have hwid := hw id hid
    have hold : ∀ (q : List Value), (∀ k, k < l.length * esz → q[k]? = o[k]?) → ∀ (i : Nat) a, l[i]? = some a → R a ((q.drop (0 + i * esz)).take esz) := fun q hq i a hi => by
      have hil := (List.getElem?_eq_some_iff.1 hi).1
      have hm : (i + 1) * esz ≤ l.length * esz := Nat.mul_le_mul_right _ hil
      rw [Nat.succ_mul] at hm
      have : (q.drop (0 + i * esz)).take esz = (o.drop (0 + i * esz)).take esz := by
        refine List.ext_getElem? fun k => ?_
        rw [take_drop_get, take_drop_get]
        by_cases hk : k < esz
        · rw [if_pos hk, if_pos hk, hq _ (by omega)]
        · rw [if_neg hk, if_neg hk]
      rw [this]
      exact hrr i a hi
    have hnew : ∀ (q : List Value), (∀ k, k < cs.length → q[l.length * esz + k]? = cs[k]?) → ∀ (i : Nat) a, l2[i]? = some a → R a ((q.drop (0 + (l.length + i) * esz)).take esz) := fun q hq i a hi => by
      have hil := (List.getElem?_eq_some_iff.1 hi).1
      have hm : (i + 1) * esz ≤ l2.length * esz := Nat.mul_le_mul_right _ hil
      rw [Nat.succ_mul] at hm
      have : (q.drop (0 + (l.length + i) * esz)).take esz = (cs.drop (i * esz)).take esz := by
        refine List.ext_getElem? fun k => ?_
        rw [take_drop_get, take_drop_get]
        by_cases hk : k < esz
        · rw [if_pos hk, if_pos hk, Nat.zero_add, Nat.add_mul, Nat.add_assoc, hq _ (by omega)]
        · rw [if_neg hk, if_neg hk]
      rw [this]
      exact hr i a hi
    have both : ∀ (q : List Value), (∀ k, k < l.length * esz → q[k]? = o[k]?) → (∀ k, k < cs.length → q[l.length * esz + k]? = cs[k]?) → ∀ (i : Nat) a, (l ++ l2)[i]? = some a → R a ((q.drop (0 + i * esz)).take esz) := fun q h1 h2 i a hi => by
      by_cases hil : i < l.length
      · rw [List.getElem?_append_left hil] at hi
        exact hold q h1 i a hi
      · rw [List.getElem?_append_right (by omega)] at hi
        have := hnew q h2 _ a hi
        rw [show l.length + (i - l.length) = i by omega] at this
        exact this
    by_cases hfit : (l.length + l2.length) * esz ≤ cap
    · have hfit' : l.length * esz + cs.length ≤ cap := by rw [hcs, ← Nat.add_mul]; exact hfit
      refine ⟨.slice (some ⟨id, 0, some esz⟩) (l.length + l2.length) cap, H.set id (spl o (0 + l.length * esz) cs), fun s x y hH hx hy => ?_, .inr ⟨id, 0, cap, _, by rw [List.length_append], by rw [List.getElem?_set_self hidl], by rw [spl_length]; exact hoc, by rw [List.length_append]; exact hfit, by rw [List.length_append]; exact hb3,
        both _ (fun k hk => ?_) (fun k hk => ?_)⟩, .inr ⟨_, _, _, _, rfl, hid⟩, fun j hj hne => ?_, by simp, fun j hj => .inl hj, fun H0 h0 hp => pre_set hp (by omega)⟩
      · unfold appK
        rw [hx, hH, hy]
        simp only
        rw [if_neg (by omega), hg]
        simp only
        rw [if_pos ⟨trivial, hoc, hwid, hnr⟩, if_pos hfit]
      · rw [spl_get, if_neg (by omega)]
      · rw [spl_get, if_pos (by omega), if_pos (by omega)]
        congr 1
        omega
      · rw [List.getElem?_set_ne]
        simp [idsOf] at hne
        omega
    · have htl : (o.take (l.length * esz)).length = l.length * esz := by rw [List.length_take]; omega
      refine ⟨.slice (some ⟨id, 0, some esz⟩) (l.length + l2.length) ((l.length + l2.length) * esz), H.set id (o.take (l.length * esz) ++ cs), fun s x y hH hx hy => ?_, .inr ⟨id, 0, _, _, by rw [List.length_append], by rw [List.getElem?_set_self hidl], by rw [List.length_append, htl, hcs, ← Nat.add_mul, Nat.zero_add], by rw [List.length_append]; exact Nat.le_refl _, by rw [List.length_append]; exact hb3,
        both _ (fun k hk => ?_) (fun k hk => ?_)⟩, .inr ⟨_, _, _, _, rfl, hid⟩, fun j hj hne => ?_, by simp, fun j hj => .inl hj, fun H0 h0 hp => pre_set hp (by omega)⟩
      · unfold appK
        rw [hx, hH, hy]
        simp only
        rw [if_neg (by omega), hg]
        simp only
        rw [if_pos ⟨trivial, hoc, hwid, hnr⟩, if_neg hfit, if_pos ⟨trivial, by omega, hb, hb2⟩]
      · rw [List.getElem?_append_left (by omega), List.getElem?_take, if_pos hk]
      · rw [List.getElem?_append_right (by omega), htl, show l.length * esz + k - l.length * esz = k by omega]
      · rw [List.getElem?_set_ne]
        simp [idsOf] at hne
        omega

theorem Sl.src (h : Sl R esz H v l) : ∃ cs, srcOf H esz (.val v) = some (l.length, cs) ∧ cs.length = l.length * esz ∧ ∀ (i : Nat) a, l[i]? = some a → R a ((cs.drop (i * esz)).take esz) := by
  rcases h with ⟨rfl, rfl⟩ | ⟨id, off, cap, o, rfl, hg, hoc, hlc, hroom, hrr⟩
  · exact ⟨[], rfl, by simp, fun i a hi => by simp at hi⟩
  · refine ⟨(o.drop off).take (l.length * esz), ?_, by rw [List.length_take, List.length_drop]; omega, fun i a hi => ?_⟩
    · simp only [srcOf, rowOf, hg]
      rw [if_pos hoc]
      simp only
      rw [if_pos ⟨trivial, by omega⟩]
    · have hil := (List.getElem?_eq_some_iff.1 hi).1
      have hm : (i + 1) * esz ≤ l.length * esz := Nat.mul_le_mul_right _ hil
      rw [Nat.succ_mul] at hm
      have : (((o.drop off).take (l.length * esz)).drop (i * esz)).take esz = (o.drop (off + i * esz)).take esz := by
        refine List.ext_getElem? fun k => ?_
        rw [take_drop_get ((o.drop off).take (l.length * esz)) (i * esz) esz k, take_drop_get o (off + i * esz) esz k]
        by_cases hk : k < esz
        · rw [if_pos hk, if_pos hk, take_drop_get, if_pos (by omega), Nat.add_assoc]
        · rw [if_neg hk, if_neg hk]
      rw [this]
      exact hrr i a hi

theorem Sl.copy {bytes : Nat} (h : Sl R esz H v l) (hb : l.length * bytes ≤ Ev.room) (hb2 : l.length ≤ Ev.room) :
    ∃ v' H', (∀ (s : St) (x y : X), s.H = H → exv s.ρ x = some (.slice none 0 0) → ex s.ρ y = .val v → appK m s esz bytes x y = some (.val v', { s with H := H' })) ∧ H <+: H' ∧ Sl R esz H' v' l ∧ OwnS H.length v' := by
  obtain ⟨cs, h1, h2, h3⟩ := h.src
  by_cases h0 : l.length = 0
  · have hl : l = [] := List.eq_nil_of_length_eq_zero h0
    subst hl
    refine ⟨.slice none 0 0, H, fun s x y hH hx hy => ?_, List.prefix_refl _, .inl ⟨rfl, rfl⟩, .inl rfl⟩
    subst hH
    unfold appK
    rw [hx, hy, h1]
    rfl
  · refine ⟨.slice (some ⟨H.length, 0, some esz⟩) l.length (l.length * esz), H ++ [cs], fun s x y hH hx hy => ?_, List.prefix_append _ _, .inr ⟨H.length, 0, l.length * esz, cs, rfl, by simp, by omega, Nat.le_refl _, by unfold Ev.room at hb2; omega, fun i a hi => ?_⟩, .inr ⟨_, _, _, _, rfl, Nat.le_refl _⟩⟩
    · unfold appK
      rw [hx, hH, hy, h1]
      simp only
      rw [if_neg h0, if_pos ⟨hb, hb2⟩]
    · rw [Nat.zero_add]
      exact h3 i a hi

end
end Go.Proofs.Ytdplmjlbkaipiaa.Ev

/- slices.Sort of whole numbers, by its contract off the kit's shelf. -/
namespace Go.Proofs.Ytdplmjlbkaipiaa.Ev
set_option linter.all false
open Go

def isI : Value → Bool
  | .int .i64 _ => true
  | _ => false
def toI : Value → Int
  | .int _ n => n
  | _ => 0
theorem isI_eq {v : Value} (h : isI v = true) : v = .int .i64 (toI v) := by
  unfold isI at h
  split at h
  · rfl
  · cases h

def srt (l : List Int) : List Int := l.mergeSort fun x y => decide (x ≤ y)

def sortP (m : Md) (vs : List Value) (H : Hp) : Option (Value × Hp) :=
  match vs with
  | [.slice none 0 0] => some (.tuple #[], H)
  | [.slice (some ⟨id, off, some 1⟩) len cap] =>
    match H[id]? with
    | some o => if off + cap = o.length ∧ len ≤ cap ∧ m.wr id = true ∧ len < 4611686018427387904 ∧ ((o.drop off).take len).all isI = true then
        some (.tuple #[], H.set id (spl o off ((srt (((o.drop off).take len).map toI)).map (Value.int .i64)))) else none
    | none => none
  | _ => none

/-- What the shelf says of it. -/
structure SortOk (P : Program) (F : Nat) : Prop where
  fn : ∃ fn, P.funcs[F]? = some fn ∧ fn.body.isSome = true ∧ (fn.name == "runtime.NumGoroutine") = false
  run : ∀ (blk off cap : Nat) (zs : List Int) (w : World), Sort.Holds (Value.int .i64) w blk off zs.toArray → blk < w.heap.size → zs.length < 4611686018427387904 →
    Calls P F #[.slice (some ⟨blk, off, none⟩) zs.length cap] w fun e w' => e = .returned (.tuple #[]) ∧ ∃ n os, w' = Sort.grow (Sort.putRow (Value.int .i64) (Sort.ahead w n) blk off (zs.mergeSort fun x y => decide (x ≤ y)).toArray) os
  non : ∀ (p : Option Addr) (cap : Nat) (w : World), Calls P F #[.slice p 0 cap] w fun e w' => e = .returned (.tuple #[]) ∧ w' = w

theorem sortP_kp {m : Md} {vs : List Value} {H H' : Hp} {r : Value} (h : sortP m vs H = some (r, H')) : Kp m H H' := by
  unfold sortP at h
  split at h
  · cases h; exact Kp.refl _ _
  · split at h
    · rename_i id off len cap _ o ho
      split at h
      · rename_i hc
        cases h
        refine ⟨by simp, fun id' h1 h2 => ?_, fun _ id' o' hl ho' => ?_⟩
        · have : id ≠ id' := fun e => by subst e; rw [hc.2.2.1] at h1; cases h1
          rw [List.getElem?_set_ne this]
        · by_cases e : id = id'
          · subst e
            rw [List.getElem?_set_self hl] at ho'
            cases ho'
            refine ⟨o, ho, fun v hv => ?_⟩
            obtain ⟨j, hj⟩ := List.getElem?_of_mem hv
            rw [spl_get] at hj
            split at hj
            · split at hj
              · have := List.mem_of_getElem? hj
                obtain ⟨n, _, rfl⟩ := List.mem_map.1 this
                exact .inl rfl
              · cases hj
            · exact .inr (List.mem_of_getElem? hj)
          · rw [List.getElem?_set_ne e] at ho'
            exact ⟨o', ho', fun v hv => .inr hv⟩
      · cases h
    · cases h
  · cases h

theorem putRow_heap {w : World} {os : Array Obj} {n blk off : Nat} {a : Array Int} {ds : Array Value} {e : TypeId} {fr : Nat × Nat} (hb : w.heap[blk]? = some (.cells ds e fr)) :
    (Sort.grow (Sort.putRow (Value.int .i64) (Sort.ahead w n) blk off a) os).heap[blk]? = some (.cells (Sort.putCells (Value.int .i64) off a ds) e fr) := by
  have hl : blk < w.heap.size := (Array.getElem?_eq_some_iff.1 hb).1
  rw [Sort.heap_grow_old _ _ (by simpa [Sort.putRow, Sort.mapBlock, Sort.ahead] using hl)]
  simp only [Sort.putRow, Sort.mapBlock, Sort.ahead, Array.getElem?_modify, if_true, hb, Option.map_some, Sort.onCells]
theorem putRow_old {w : World} {os : Array Obj} {n blk off b : Nat} {a : Array Int} (hl : b < w.heap.size) (hb : blk ≠ b) :
    (Sort.grow (Sort.putRow (Value.int .i64) (Sort.ahead w n) blk off a) os).heap[b]? = w.heap[b]? := by
  rw [Sort.heap_grow_old _ _ (by simpa [Sort.putRow, Sort.mapBlock, Sort.ahead] using hl)]
  simp only [Sort.putRow, Sort.mapBlock, Sort.ahead, Array.getElem?_modify, if_neg hb]

theorem sortP_sound {P : Program} {B F : Nat} (hS : SortOk P F) {m : Md} {vs : List Value} {H H' : Hp} {r : Value} (h : sortP m vs H = some (r, H')) (hm : ∀ id, m.wr id = true → B ≤ id) {J : Inj} {w : World} {cs : Array Value} (hw : WRel B J H w) (hl : LRel J H vs cs.toList) :
    Calls P F cs w fun e w' => ∃ v J', e = .returned v ∧ Tr B w.heap.size J H w J' H' w' ∧ WRel B J' H' w' ∧ VRel J' H' r v := by
  obtain ⟨v, hv⟩ : ∃ v, vs = [v] := by
    unfold sortP at h
    split at h
    · exact ⟨_, rfl⟩
    · exact ⟨_, rfl⟩
    · cases h
  subst hv
  obtain ⟨c, hc, hvc⟩ := hl.get (i := 0) (x := v) rfl
  have hcs : cs = #[c] := by
    have h1 := hl.1
    apply Array.toList_inj.1
    cases hcl : cs.toList with
    | nil => rw [hcl] at h1; simp at h1
    | cons a t =>
      rw [hcl] at h1 hc
      simp at h1 hc
      subst hc
      simp [h1]
  subst hcs
  have tup : VRel J H' (.tuple #[]) (.tuple #[]) := .tup _ _ rfl (fun i x y hx => by simp at hx)
  unfold sortP at h
  split at h
  · rename_i heq
    cases h
    cases heq
    cases hvc
    exact (hS.non none 0 w).mono fun e w' ⟨h1, h2⟩ => by
      subst h2
      exact ⟨_, J, h1, Tr.refl _ _ _ _ _, hw, tup⟩
  · rename_i id off len cap heq
    cases heq
    split at h
    · rename_i o ho
      split at h
      · rename_i hcnd
        obtain ⟨hc1, hc2, hc3, hc4, hc5⟩ := hcnd
        cases h
        cases hvc with
        | sl _ _ _ _ _ o' a ccap ho' hg hll hcc hv =>
          rw [ho] at ho'
          cases ho'
          obtain ⟨l, hJ, hv⟩ := hv hc1
          obtain ⟨l', ds, e, lo, hi, hJ', hb, hsz, hlen, hcell, hfr⟩ := hw.row id o ho
          rw [hJ] at hJ'
          cases hJ'
          generalize hzs : ((o.drop off).take len).map toI = zs at *
          have hzl : zs.length = len := by subst hzs; simp; omega
          have hB := hm id hc3
          have hidl := (List.getElem?_eq_some_iff.1 ho).1
          have hget : ∀ j, j < len → o[off + j]? = some (.int .i64 zs[j]!) := fun j hj => by
            have h1 : off + j < o.length := by omega
            have h2 : ((o.drop off).take len)[j]? = some o[off + j] := by
              rw [List.getElem?_take, if_pos hj, List.getElem?_drop, List.getElem?_eq_getElem h1]
            have h3 : zs[j]! = toI o[off + j] := by
              subst hzs
              have h4 : (((o.drop off).take len).map toI)[j]? = some (toI o[off + j]) := by rw [List.getElem?_map, h2]; rfl
              rw [getElem!_def, h4]
            rw [List.all_eq_true] at hc5
            rw [List.getElem?_eq_getElem h1, h3, ← isI_eq (hc5 _ (List.mem_of_getElem? h2))]
          by_cases h0 : len = 0
          · subst h0
            have hz0 : zs = [] := List.eq_nil_of_length_eq_zero hzl
            subst hz0
            have : H.set id (spl o off ((srt []).map (Value.int .i64))) = H := by
              have e1 : srt [] = [] := by simp [srt]
              rw [e1]
              show H.set id o = H
              refine List.ext_getElem? fun j => ?_
              rw [List.getElem?_set]
              split
              · rename_i e; subst e; rw [ho]
              · rfl
            rw [this]
            exact (hS.non (some a) ccap w).mono fun e w' ⟨h1, h2⟩ => by
              subst h2
              exact ⟨_, J, h1, Tr.refl _ _ _ _ _, hw, .tup _ _ rfl (fun i x y hx => by simp at hx)⟩
          · rcases hv with ⟨hv, _⟩ | ⟨rfl, hv⟩
            · exact absurd hv h0
            have hbl : l.b < w.heap.size := (Array.getElem?_eq_some_iff.1 hb).1
            have hoff : off + len ≤ o.length := by omega
            have hHold : Sort.Holds (Value.int .i64) w l.b (l.sh + off) zs.toArray := fun j hj => by
              have hj' : j < len := by simpa [hzl] using hj
              obtain ⟨_, d, hd, hvr⟩ := hcell _ _ (hget j hj')
              have hd' : d = .int .i64 zs[j]! := by cases hvr; rfl
              subst hd'
              have hfro := hfr hB (l.sh + off + j) (by omega) (by omega)
              constructor
              · simp only [World.cell?, hb]
                rw [Nat.add_assoc, hd]
                simp
              · simp only [World.frozen?, hb]
                simp
                omega
            have := hS.run l.b (l.sh + off) ccap zs w hHold hbl (by omega)
            rw [hzl] at this
            refine this.mono fun e' w' ⟨h1, n, os, h2⟩ => ?_
            have hsl : (srt zs).length = len := by simp [srt, hzl]
            have hH : ∀ j, (H.set id (spl o off ((srt zs).map (Value.int .i64))))[j]? = if id = j then some (spl o off ((srt zs).map (Value.int .i64))) else H[j]? := fun j => by
              rw [List.getElem?_set]
              split
              · rfl
              · rfl
            have hkeep : Keep J H J (H.set id (spl o off ((srt zs).map (Value.int .i64)))) := fun id' o' ho' => by
              rw [hH]
              split
              · rename_i e; subst e
                rw [ho] at ho'
                cases ho'
                exact ⟨_, rfl, .inr ⟨by rw [spl_length], rfl⟩⟩
              · exact ⟨o', ho', .inr ⟨rfl, rfl⟩⟩
            have hsize : w.heap.size ≤ w'.heap.size := by
              subst h2
              simp [Sort.putRow, Sort.mapBlock, Sort.ahead]
            refine ⟨_, J, h1, ⟨hkeep, fun b hb hn => ?_, fun id' l' h => .inl ⟨l', h, rfl⟩, hsize, by subst h2; rfl, by subst h2; rfl, by subst h2; rfl⟩, ⟨fun id' o' ho' => ?_, hw.uni, fun id' hid' => hw.dom id' (by simpa using hid')⟩, .tup _ _ rfl (fun i x y hx => by simp at hx)⟩
            · subst h2
              exact putRow_old hb (hn id l hJ hB)
            · rw [hH] at ho'
              split at ho'
              · rename_i e2; subst e2
                cases ho'
                refine ⟨l, _, e, lo, hi, hJ, by subst h2; exact putRow_heap hb, by simp [Sort.putCells, hsz], by rw [spl_length]; exact hlen, fun i v hiv => ?_, hfr⟩
                rw [spl_get] at hiv
                have hil : i < o.length := by
                  split at hiv
                  · split at hiv
                    · have := (List.getElem?_eq_some_iff.1 hiv).1
                      simp [hsl] at this
                      omega
                    · cases hiv
                  · exact (List.getElem?_eq_some_iff.1 hiv).1
                obtain ⟨v0, hv0⟩ : ∃ v0, o[i]? = some v0 := ⟨_, List.getElem?_eq_getElem hil⟩
                obtain ⟨hone, d, hd, hvr⟩ := hcell _ _ hv0
                simp only [Sort.putCells, Array.getElem?_mapIdx, hd, Option.map_some, Option.some.injEq, exists_eq_left']
                by_cases hin : off ≤ i ∧ i < off + len
                · rw [if_pos (by simp [hsl]; omega)] at hiv
                  have hidx : (srt zs)[i - off]? = some (srt zs)[i - off]! := by
                    have hlt : i - off < (srt zs).length := by omega
                    rw [getElem!_pos (srt zs) (i - off) hlt, List.getElem?_eq_getElem hlt]
                  rw [List.getElem?_map, hidx] at hiv
                  simp only [Option.map_some] at hiv
                  have hv' : Value.int .i64 (srt zs)[i - off]! = v := by
                    simpa [hil] using hiv
                  subst hv'
                  rw [if_pos (by simp [hzl]; omega)]
                  have : l.sh + i - (l.sh + off) = i - off := by omega
                  rw [this]
                  refine ⟨rfl, ?_⟩
                  have e3 : (srt zs).toArray[i - off]! = (srt zs)[i - off]! := by
                    simp
                  show VRel _ _ _ (.int .i64 ((srt zs).toArray[i - off]!))
                  rw [e3]
                  exact .int _ _
                · have hiv' : o[i]? = some v := by
                    split at hiv
                    · rename_i hcc2
                      simp [hsl] at hcc2
                      omega
                    · exact hiv
                  rw [hv0] at hiv'
                  cases hiv'
                  rw [if_neg (by simp [hzl]; omega)]
                  exact ⟨hone, hvr.keep hkeep⟩
              · rename_i hne
                obtain ⟨l2, ds2, e2, lo2, hi2, q1, q2, q3, q4, q5, q6⟩ := hw.row id' o' ho'
                refine ⟨l2, ds2, e2, lo2, hi2, q1, ?_, q3, q4, fun i v hv => ⟨(q5 i v hv).1, ?_⟩, q6⟩
                · subst h2
                  rw [putRow_old (Array.getElem?_eq_some_iff.1 q2).1 (hw.uni id id' l l2 hne hB hJ q1), q2]
                · obtain ⟨_, d, hd, hvr⟩ := q5 i v hv
                  exact ⟨d, hd, hvr.keep hkeep⟩
      · cases h
    · cases h
  · cases h
end Go.Proofs.Ytdplmjlbkaipiaa.Ev

/- Functions that are told by themselves: the calls, and the law's row. -/
namespace Go.Proofs.Ytdplmjlbkaipiaa.Ev
set_option linter.all false
open Go RowKit

theorem Fun.prim {E : Env} {m : Md} {f : Nat} {vs : List Value} {H H' : Hp} {r : Value} {p : Md → List Value → Hp → Option (Value × Hp)} {Q : Value → Hp → Prop} (hp : E.prim f = some p) (h : p m vs H = some (r, H')) (hq : Q r H') : Fun E m f vs H Q :=
  ⟨1, r, H', by rw [evF, hp]; exact h, hq⟩

theorem Sl.sort {E : Env} {m : Md} {F : Nat} {H : Hp} {v : Value} {l : List Int} (hp : E.prim F = some sortP) (h : Sl (En eI) 1 H v l) (hle : l.length ≤ 1048576) (hw : ∀ id ∈ idsOf v, m.wr id = true) :
    Fun E m F [v] H fun r H' => r = .tuple #[] ∧ Sl (En eI) 1 H' v (srt l) ∧ (∀ j, j ∉ idsOf v → H'[j]? = H[j]?) ∧ H'.length = H.length := by
  rcases h with ⟨rfl, rfl⟩ | ⟨id, off, cap, o, rfl, ho, hc, hn, hrm, hr⟩
  · exact Fun.prim hp rfl ⟨rfl, .inl ⟨rfl, by simp [srt]⟩, fun _ _ => rfl, rfl⟩
  · have hget : ∀ i, (hi : i < l.length) → o[off + i]? = some (.int .i64 l[i]) := fun i hi => by
      have h1 := hr i l[i] (List.getElem?_eq_getElem hi)
      unfold En at h1
      simpa [eI] using getElem?_of_take h1 (j := 0) (by omega)
    have hcs : (o.drop off).take l.length = l.map (Value.int .i64) := by
      refine List.ext_getElem? fun j => ?_
      rw [List.getElem?_take, List.getElem?_map]
      split
      · rename_i hj
        rw [List.getElem?_drop, hget j hj, List.getElem?_eq_getElem hj]
        rfl
      · rename_i hj
        rw [List.getElem?_eq_none (by omega)]
        rfl
    have hz : ((o.drop off).take l.length).map toI = l := by
      rw [hcs, List.map_map]
      exact List.map_id l
    have hall : ((o.drop off).take l.length).all isI = true := by
      rw [hcs, List.all_map]
      exact List.all_eq_true.2 fun _ _ => rfl
    have hsl : (srt l).length = l.length := by simp [srt]
    have hidl := (List.getElem?_eq_some_iff.1 ho).1
    refine Fun.prim hp (r := .tuple #[]) (H' := H.set id (spl o off ((srt l).map (Value.int .i64)))) ?_ ⟨rfl, .inr ⟨id, off, cap, _, by rw [hsl], List.getElem?_set_self hidl, by rw [spl_length]; exact hc, by rw [hsl]; exact hn, by rw [hsl]; exact hrm, fun i a hi => ?_⟩, fun j hj => ?_, by simp⟩
    · unfold sortP
      simp only [ho]
      rw [if_pos ⟨hc, by omega, hw id (by simp [idsOf]), by omega, hall⟩, hz]
    · have hil : i < l.length := by rw [← hsl]; exact (List.getElem?_eq_some_iff.1 hi).1
      unfold En eI
      refine List.ext_getElem? fun j => ?_
      rw [take_drop_get]
      by_cases hj : j < 1
      · have : j = 0 := by omega
        subst this
        rw [if_pos hj, spl_get, if_pos (by simp [hsl]; omega), if_pos (by omega), List.getElem?_map, show off + i * 1 + 0 - off = i by omega, hi]
        rfl
      · rw [if_neg hj, List.getElem?_eq_none (by simp; omega)]
    · rw [List.getElem?_set_ne]
      simp [idsOf] at hj
      omega

/-- The law's row where slices.Sort stands by its contract. -/
theorem law_run_s {P : Program} {E : Env} {hv : Nat → Nat → Bool} {J : Inj} {M : Hp} {w : World} {vs : List Value} {cs : Array Value} {f F : Nat} (hmix : P.follows .mixedOrders = true) (hE : E.fns = fnsOf P hv) (hp : ∀ f p, E.prim f = some p → f = F ∧ p = sortP) (hS : SortOk P F) (hr : RdRel J M w) (hl : LRel J M vs cs.toList)
    (h : Fun E { wr := fun id => decide (M.length ≤ id), nr := false } f vs M fun r _ => r = .bool true) : Calls P f cs w fun e w' => e = .returned (.bool true) ∧ Below w.heap.size w w' := by
  obtain ⟨k, r, H', h1, rfl⟩ := h
  refine law_calls hmix hE (fun f p h => ?_) (fun f p h => ?_) h1 hr hl
  · obtain ⟨rfl, rfl⟩ := hp f p h
    intro m vs H r H' h2 hm hB
    exact ⟨hS.fn, fun J w cs hw hl => sortP_sound hS h2 hm hw hl⟩
  · obtain ⟨rfl, rfl⟩ := hp f p h
    exact fun m vs H r H' h2 => sortP_kp h2
end Go.Proofs.Ytdplmjlbkaipiaa.Ev

/- Numbers that rise: plain. -/
namespace Go.Proofs.Ytdplmjlbkaipiaa.Ev
set_option linter.all false
open Go

/-- Neighbours that are alike, once. -/
def cmpL : List Int → List Int
  | [] => []
  | [a] => [a]
  | a :: b :: t => if a = b then cmpL (b :: t) else a :: cmpL (b :: t)

theorem cmpL_snoc : ∀ (xs : List Int) (a b : Int), cmpL (xs ++ [a, b]) = if a = b then cmpL (xs ++ [a]) else cmpL (xs ++ [a]) ++ [b]
  | [], a, b => by
    by_cases h : a = b <;> simp [cmpL, h]
  | [x], a, b => by
    by_cases h : x = a <;> by_cases h2 : a = b <;> simp [cmpL, h, h2]
  | x :: y :: t, a, b => by
    have ih := cmpL_snoc (y :: t) a b
    simp only [List.cons_append] at ih ⊢
    by_cases h : x = y
    · rw [cmpL, if_pos h, cmpL, if_pos h, ih]
    · rw [cmpL, if_neg h, cmpL, if_neg h, ih]
      by_cases h2 : a = b
      · rw [if_pos h2, if_pos h2]
      · rw [if_neg h2, if_neg h2, List.cons_append]

/-- One more. -/
theorem cmpL_take {l : List Int} {k : Nat} (h : k + 1 < l.length) : cmpL (l.take (k + 2)) = if l[k] = l[k + 1] then cmpL (l.take (k + 1)) else cmpL (l.take (k + 1)) ++ [l[k + 1]] := by
  have e1 : l.take (k + 1) = l.take k ++ [l[k]] := by rw [List.take_succ_eq_append_getElem]
  have e2 : l.take (k + 2) = l.take k ++ [l[k], l[k + 1]] := by
    have h3 : l.take (k + 2) = l.take (k + 1) ++ [l[k + 1]] := by rw [show k + 2 = (k + 1) + 1 from rfl, List.take_succ_eq_append_getElem]
    rw [h3, e1, List.append_assoc]
    rfl
  rw [e2, cmpL_snoc, e1]

theorem cmpL_mem : ∀ (l : List Int) (x : Int), x ∈ cmpL l ↔ x ∈ l
  | [], x => by simp [cmpL]
  | [a], x => by simp [cmpL]
  | a :: b :: t, x => by
    have := cmpL_mem (b :: t) x
    rw [cmpL]
    split
    · rename_i h
      rw [this, h]
      simp
    · rw [List.mem_cons, this, List.mem_cons (a := x) (b := a)]

/-- Numbers that rise. -/
def Asc (l : List Int) : Prop := l.Pairwise (· < ·)

theorem cmpL_asc : ∀ (l : List Int), l.Pairwise (· ≤ ·) → Asc (cmpL l)
  | [], _ => by simp [cmpL, Asc]
  | [a], _ => by simp [cmpL, Asc]
  | a :: b :: t, h => by
    have h' := List.pairwise_cons.1 h
    have ih := cmpL_asc (b :: t) h'.2
    rw [cmpL]
    split
    · exact ih
    · rename_i hab
      refine List.pairwise_cons.2 ⟨fun x hx => ?_, ih⟩
      rw [cmpL_mem] at hx
      have h1 := h'.1 b (by simp)
      rcases List.mem_cons.1 hx with rfl | hx
      · omega
      · have := (List.pairwise_cons.1 h'.2).1 x hx
        omega

/-- Two rows of numbers that rise and hold the same are one. -/
theorem Asc.eq : ∀ {l k : List Int}, Asc l → Asc k → (∀ x, x ∈ l ↔ x ∈ k) → l = k
  | [], [], _, _, _ => rfl
  | [], b :: k, _, _, h => by have := (h b).2 (by simp); simp at this
  | a :: l, [], _, _, h => by have := (h a).1 (by simp); simp at this
  | a :: l, b :: k, hl, hk, h => by
    have hl := List.pairwise_cons.1 hl
    have hk := List.pairwise_cons.1 hk
    have hab : a = b := by
      have h1 := (h a).1 (by simp)
      have h2 := (h b).2 (by simp)
      rcases List.mem_cons.1 h1 with e | h1
      · exact e
      · rcases List.mem_cons.1 h2 with e | h2
        · exact e.symm
        · have := hk.1 a h1
          have := hl.1 b h2
          omega
    subst hab
    rw [Asc.eq hl.2 hk.2 fun x => ?_]
    have hx := h x
    constructor
    · intro hm
      rcases List.mem_cons.1 (hx.1 (List.mem_cons_of_mem _ hm)) with e | h2
      · have := hl.1 x hm
        omega
      · exact h2
    · intro hm
      rcases List.mem_cons.1 (hx.2 (List.mem_cons_of_mem _ hm)) with e | h2
      · have := hk.1 x hm
        omega
      · exact h2

theorem srt_sorted (l : List Int) : (srt l).Pairwise (· ≤ ·) := by
  have := List.pairwise_mergeSort (le := fun (x y : Int) => decide (x ≤ y)) (fun a b c h1 h2 => by simp at *; omega) (fun a b => by simp; omega) l
  exact this.imp fun h => by simpa using h
theorem srt_mem (l : List Int) (x : Int) : x ∈ srt l ↔ x ∈ l := by simp [srt]
theorem srt_len (l : List Int) : (srt l).length = l.length := by simp [srt]

/-- Sorted, each once. -/
def rsn (l : List Int) : List Int := cmpL (srt l)
theorem rsn_asc (l : List Int) : Asc (rsn l) := cmpL_asc _ (srt_sorted l)
theorem rsn_mem (l : List Int) (x : Int) : x ∈ rsn l ↔ x ∈ l := by rw [rsn, cmpL_mem, srt_mem]
end Go.Proofs.Ytdplmjlbkaipiaa.Ev

/- The seat's program on the small machine: which slots hold boxes of their own, which functions leave memory as it is. -/
namespace Go.Proofs.Ytdplmjlbkaipiaa.Ev
set_option linter.all false
open Go
def hvT : List (Nat × List Nat) := [(18, [4]), (24, [38, 68]), (25, [35, 66]), (29, [41]), (30, [39]), (31, [20]), (37, [25, 37]), (41, [4]), (43, [24]), (44, [5, 26]), (46, [60]), (48, [21]), (49, [20]), (50, [7, 75]), (51, [7, 68]), (56, [3]), (57, [1, 2, 3]), (59, [3]), (60, [2, 3]), (63, [11]), (64, [11, 44]), (65, [42]), (69, [5, 31, 41]), (71, [2]), (73, [1, 2, 3]), (79, [2, 3]), (81, [36]), (83, [6, 27, 40, 45, 60, 78]), (84, [3]), (93, [31, 38, 44])]
def hv (f t : Nat) : Bool := match hvT.find? (·.1 == f) with | some p => p.2.contains t | none => false
def trT : List Nat := [15, 16, 18, 19, 20, 22, 23, 28, 35, 36, 38, 39, 41, 42, 52, 55, 56, 57, 58, 59, 60, 61, 62, 64, 71, 72, 74, 75, 76, 77, 78, 79, 84, 85, 90, 91, 92]
noncomputable def EE : Env := { fns := fnsOf Go.Proofs.Try.prog hv, prim := fun f => if f = 87 then some sortP else none, pw := fun _ => false, tr := fun f => trT.contains f }
end Go.Proofs.Ytdplmjlbkaipiaa.Ev

/- Code of the program's functions, as the small machine has it: written by mkcode.py. -/
namespace Go.Proofs.Ytdplmjlbkaipiaa.Ev
set_option linter.all false
open Go
def c3 : CF := ⟨27, (.seq (.reg false [⟨(some 2), .none, (.mov (.c (.bool false))), 0, []⟩]) (.seq (.reg false [⟨(some 3), .none, (.mov (.c (.int .i64 1048576))), 0, []⟩]) (.seq (.reg false [⟨(some 7), .none, (.mov (.t 0)), 0, []⟩, ⟨(some 8), .none, (.mov (.t 3)), 1, []⟩, ⟨(some 9), .none, (.call 15 [(.t 7), (.t 8)]), 2, []⟩, ⟨(some 3), .none, (.mov (.t 9)), 3, []⟩]) (.seq (.seq (.reg false [⟨(some 10), .none, (.mov (.t 3)), 0, []⟩, ⟨(some 11), .none, (.bin .lss (.t 10) (.c (.int .i64 0))), 1, []⟩]) (.cond (.t 11) (.seq (.reg false [⟨(some 2), .none, (.mov (.c (.bool true))), 0, []⟩]) .ret) .skip)) (.seq (.reg false [⟨(some 12), .none, (.mov (.t 0)), 0, []⟩, ⟨(some 13), .none, (.call 17 [(.t 12)]), 1, []⟩, ⟨(some 14), .none, (.call 16 [(.t 13)]), 2, []⟩, ⟨(some 4), .none, (.mov (.t 14)), 3, []⟩]) (.seq (.reg false [⟨(some 15), .none, (.mov (.t 0)), 0, []⟩, ⟨(some 16), .none, (.call 17 [(.t 15)]), 1, []⟩, ⟨(some 5), .none, (.mov (.t 16)), 2, []⟩]) (.seq (.reg false [⟨(some 17), .none, (.mov (.t 5)), 0, []⟩, ⟨(some 18), .none, (.call 18 [(.t 17)]), 1, []⟩, ⟨(some 6), .none, (.mov (.t 18)), 2, []⟩]) (.seq (.seq (.reg false [⟨(some 19), .none, (.mov (.t 6)), 0, []⟩, ⟨(some 20), .none, (.mov (.t 4)), 1, []⟩, ⟨(some 21), .none, (.beq true (.t 19) (.t 20)), 2, []⟩]) (.cond (.t 21) (.seq (.reg false [⟨(some 2), .none, (.mov (.c (.bool false))), 0, []⟩]) .ret) .skip)) (.seq (.seq (.reg false [⟨(some 22), .none, (.mov (.t 5)), 0, []⟩, ⟨(some 23), .none, (.mov (.t 0)), 1, []⟩, ⟨(some 24), .none, (.call 17 [(.t 23)]), 2, []⟩, ⟨(some 25), .none, (.call 19 [(.t 22), (.t 24)]), 3, []⟩, ⟨(some 26), .none, (.un .not (.t 25)), 4, []⟩]) (.cond (.t 26) (.seq (.reg false [⟨(some 2), .none, (.mov (.c (.bool false))), 0, []⟩]) .ret) .skip)) (.seq (.reg false [⟨(some 2), .none, (.mov (.c (.bool true))), 0, []⟩]) .ret)))))))))), [(.t 2)]⟩
theorem k3 : EE.fns 3 = some c3 := by kernel_rfl
def c16 : CF := ⟨52, (.seq (.reg false [⟨(some 2), .none, (.mov (.c (.bool false))), 0, []⟩]) (.seq (.seq (.reg false [⟨(some 4), .none, (.mov (.t 0)), 0, []⟩, ⟨(some 5), .none, (.lenS (.t 4)), 1, []⟩, ⟨(some 6), .none, (.bin .gtr (.t 5) (.c (.int .i64 30))), 2, []⟩]) (.cond (.t 6) (.seq (.reg false [⟨(some 2), .none, (.mov (.c (.bool false))), 0, []⟩]) .ret) .skip)) (.seq (.seq (.reg false [⟨(some 3), .none, (.mov (.c (.int .i64 0))), 0, []⟩]) (.block 0 (.loop (.seq (.seq (.reg false [⟨(some 7), .none, (.mov (.t 3)), 0, []⟩, ⟨(some 8), .none, (.mov (.t 0)), 1, []⟩, ⟨(some 9), .none, (.lenS (.t 8)), 2, []⟩, ⟨(some 10), .none, (.bin .lss (.t 7) (.t 9)), 3, []⟩]) (.cond (.t 10) .skip (.exit 0))) (.seq (.block 1 (.seq (.reg true [⟨(some 13), .none, (.mov (.t 0)), 0, []⟩, ⟨(some 14), .none, (.mov (.t 3)), 1, []⟩, ⟨(some 15), .none, (.iadr 2 (.t 13) (.t 14)), 2, [0, 1]⟩, ⟨(some 16), .none, (.fadr 0 (.t 15)), 3, [2, 0, 1]⟩, ⟨(some 17), .none, (.load 1 false (.t 16)), 4, [3, 2, 0, 1]⟩, ⟨(some 18), .none, (.call 55 [(.t 17)]), 5, [4, 3, 2, 0, 1]⟩, ⟨(some 19), .none, (.un .not (.t 18)), 6, [5, 4, 3, 2, 0, 1]⟩, ⟨(some 20), .none, (.mov (.t 19)), 7, [6, 5, 4, 3, 2, 0, 1]⟩, ⟨(some 21), (.some (20, false)), (.mov (.t 0)), 8, [7, 6, 5, 4, 3, 2, 0, 1]⟩, ⟨(some 22), (.some (20, false)), (.mov (.t 3)), 9, [7, 6, 5, 4, 3, 2, 0, 1]⟩, ⟨(some 23), (.some (20, false)), (.iadr 2 (.t 21) (.t 22)), 10, [8, 7, 6, 5, 4, 3, 2, 0, 1, 9]⟩, ⟨(some 24), (.some (20, false)), (.fadr 1 (.t 23)), 11, [10, 8, 7, 6, 5, 4, 3, 2, 0, 1, 9]⟩, ⟨(some 25), (.some (20, false)), (.load 1 false (.t 24)), 12, [11, 10, 8, 7, 6, 5, 4, 3, 2, 0, 1, 9]⟩, ⟨(some 26), (.some (20, false)), (.call 55 [(.t 25)]), 13, [12, 11, 10, 8, 7, 6, 5, 4, 3, 2, 0, 1, 9]⟩, ⟨(some 27), (.some (20, false)), (.un .not (.t 26)), 14, [13, 12, 11, 10, 8, 7, 6, 5, 4, 3, 2, 0, 1, 9]⟩, ⟨(some 28), .none, (.pick (.t 20) (.c (.bool true)) (.t 27)), 15, [7, 6, 5, 4, 3, 2, 0, 1, 14, 13, 12, 11, 10, 8, 9]⟩, ⟨(some 29), .none, (.mov (.t 28)), 16, [15, 7, 6, 5, 4, 3, 2, 0, 1, 14, 13, 12, 11, 10, 8, 9]⟩, ⟨(some 30), (.some (29, false)), (.mov (.t 0)), 17, [16, 15, 7, 6, 5, 4, 3, 2, 0, 1, 14, 13, 12, 11, 10, 8, 9]⟩, ⟨(some 31), (.some (29, false)), (.mov (.t 3)), 18, [16, 15, 7, 6, 5, 4, 3, 2, 0, 1, 14, 13, 12, 11, 10, 8, 9]⟩, ⟨(some 32), (.some (29, false)), (.iadr 2 (.t 30) (.t 31)), 19, [17, 16, 15, 7, 6, 5, 4, 3, 2, 0, 1, 14, 13, 12, 11, 10, 8, 9, 18]⟩, ⟨(some 33), (.some (29, false)), (.fadr 0 (.t 32)), 20, [19, 17, 16, 15, 7, 6, 5, 4, 3, 2, 0, 1, 14, 13, 12, 11, 10, 8, 9, 18]⟩, ⟨(some 34), (.some (29, false)), (.load 1 false (.t 33)), 21, [20, 19, 17, 16, 15, 7, 6, 5, 4, 3, 2, 0, 1, 14, 13, 12, 11, 10, 8, 9, 18]⟩, ⟨(some 35), (.some (29, false)), (.mov (.t 0)), 22, [16, 15, 7, 6, 5, 4, 3, 2, 0, 1, 14, 13, 12, 11, 10, 8, 9]⟩, ⟨(some 36), (.some (29, false)), (.mov (.t 3)), 23, [16, 15, 7, 6, 5, 4, 3, 2, 0, 1, 14, 13, 12, 11, 10, 8, 9]⟩, ⟨(some 37), (.some (29, false)), (.iadr 2 (.t 35) (.t 36)), 24, [22, 16, 15, 7, 6, 5, 4, 3, 2, 0, 1, 14, 13, 12, 11, 10, 8, 9, 23]⟩, ⟨(some 38), (.some (29, false)), (.fadr 1 (.t 37)), 25, [24, 22, 16, 15, 7, 6, 5, 4, 3, 2, 0, 1, 14, 13, 12, 11, 10, 8, 9, 23]⟩, ⟨(some 39), (.some (29, false)), (.load 1 false (.t 38)), 26, [25, 24, 22, 16, 15, 7, 6, 5, 4, 3, 2, 0, 1, 14, 13, 12, 11, 10, 8, 9, 23]⟩, ⟨(some 40), (.some (29, false)), (.bin .eql (.t 34) (.t 39)), 27, [21, 20, 19, 17, 16, 15, 7, 6, 5, 4, 3, 2, 0, 1, 14, 13, 12, 11, 10, 8, 9, 18, 26, 25, 24, 22, 23]⟩, ⟨(some 41), .none, (.pick (.t 29) (.c (.bool true)) (.t 40)), 28, [16, 15, 7, 6, 5, 4, 3, 2, 0, 1, 14, 13, 12, 11, 10, 8, 9, 27, 21, 20, 19, 17, 18, 26, 25, 24, 22, 23]⟩, ⟨(some 42), .none, (.mov (.t 41)), 29, [28, 16, 15, 7, 6, 5, 4, 3, 2, 0, 1, 14, 13, 12, 11, 10, 8, 9, 27, 21, 20, 19, 17, 18, 26, 25, 24, 22, 23]⟩, ⟨(some 43), (.some (42, false)), (.mov (.t 0)), 30, [29, 28, 16, 15, 7, 6, 5, 4, 3, 2, 0, 1, 14, 13, 12, 11, 10, 8, 9, 27, 21, 20, 19, 17, 18, 26, 25, 24, 22, 23]⟩, ⟨(some 44), (.some (42, false)), (.mov (.t 3)), 31, [29, 28, 16, 15, 7, 6, 5, 4, 3, 2, 0, 1, 14, 13, 12, 11, 10, 8, 9, 27, 21, 20, 19, 17, 18, 26, 25, 24, 22, 23]⟩, ⟨(some 45), (.some (42, false)), (.slc 2 (.t 43) .none (.some (.t 44))), 32, [30, 29, 28, 16, 15, 7, 6, 5, 4, 3, 2, 0, 1, 14, 13, 12, 11, 10, 8, 9, 27, 21, 20, 19, 17, 18, 26, 25, 24, 22, 23, 31]⟩, ⟨(some 46), (.some (42, false)), (.mov (.t 0)), 33, [29, 28, 16, 15, 7, 6, 5, 4, 3, 2, 0, 1, 14, 13, 12, 11, 10, 8, 9, 27, 21, 20, 19, 17, 18, 26, 25, 24, 22, 23]⟩, ⟨(some 47), (.some (42, false)), (.mov (.t 3)), 34, [29, 28, 16, 15, 7, 6, 5, 4, 3, 2, 0, 1, 14, 13, 12, 11, 10, 8, 9, 27, 21, 20, 19, 17, 18, 26, 25, 24, 22, 23]⟩, ⟨(some 48), (.some (42, false)), (.iadr 2 (.t 46) (.t 47)), 35, [33, 29, 28, 16, 15, 7, 6, 5, 4, 3, 2, 0, 1, 14, 13, 12, 11, 10, 8, 9, 27, 21, 20, 19, 17, 18, 26, 25, 24, 22, 23, 34]⟩, ⟨(some 49), (.some (42, false)), (.load 2 true (.t 48)), 36, [35, 33, 29, 28, 16, 15, 7, 6, 5, 4, 3, 2, 0, 1, 14, 13, 12, 11, 10, 8, 9, 27, 21, 20, 19, 17, 18, 26, 25, 24, 22, 23, 34]⟩, ⟨(some 50), (.some (42, false)), (.call 56 [(.t 45), (.t 49)]), 37, [32, 30, 29, 28, 16, 15, 7, 6, 5, 4, 3, 2, 0, 1, 14, 13, 12, 11, 10, 8, 9, 27, 21, 20, 19, 17, 18, 26, 25, 24, 22, 23, 31, 36, 35, 33, 34]⟩, ⟨(some 51), .none, (.pick (.t 42) (.c (.bool true)) (.t 50)), 38, [29, 28, 16, 15, 7, 6, 5, 4, 3, 2, 0, 1, 14, 13, 12, 11, 10, 8, 9, 27, 21, 20, 19, 17, 18, 26, 25, 24, 22, 23, 37, 32, 30, 31, 36, 35, 33, 34]⟩]) (.cond (.t 51) (.seq (.reg false [⟨(some 2), .none, (.mov (.c (.bool false))), 0, []⟩]) .ret) .skip))) (.reg false [⟨(some 11), .none, (.mov (.t 3)), 0, []⟩, ⟨(some 12), .none, (.bin .add (.t 11) (.c (.int .i64 1))), 1, []⟩, ⟨(some 3), .none, (.mov (.t 12)), 2, []⟩])))))) (.seq (.reg false [⟨(some 2), .none, (.mov (.c (.bool true))), 0, []⟩]) .ret)))), [(.t 2)]⟩
theorem k16 : EE.fns 16 = some c16 := by kernel_rfl
def c17 : CF := ⟨23, (.seq (.reg false [⟨(some 2), .none, (.mov (.c (.slice .none 0 0))), 0, []⟩]) (.seq (.reg false [⟨(some 5), .none, (.mov (.t 0)), 0, []⟩, ⟨(some 6), .none, (.lenS (.t 5)), 1, []⟩, ⟨(some 7), .none, (.makeS 2 16 [(.int .i64 0), (.int .i64 0)] (.t 6) (.t 6)), 2, []⟩, ⟨(some 3), .none, (.mov (.t 7)), 3, []⟩]) (.seq (.seq (.reg false [⟨(some 4), .none, (.mov (.c (.int .i64 0))), 0, []⟩]) (.block 0 (.loop (.seq (.seq (.reg false [⟨(some 8), .none, (.mov (.t 4)), 0, []⟩, ⟨(some 9), .none, (.mov (.t 0)), 1, []⟩, ⟨(some 10), .none, (.lenS (.t 9)), 2, []⟩, ⟨(some 11), .none, (.bin .lss (.t 8) (.t 10)), 3, []⟩]) (.cond (.t 11) .skip (.exit 0))) (.seq (.block 1 (.reg false [⟨(some 14), .none, (.mov (.t 3)), 0, []⟩, ⟨(some 15), .none, (.mov (.t 4)), 1, []⟩, ⟨(some 16), .none, (.mov (.t 0)), 2, []⟩, ⟨(some 17), .none, (.mov (.t 4)), 3, []⟩, ⟨(some 18), .none, (.iadr 2 (.t 16) (.t 17)), 4, []⟩, ⟨(some 19), .none, (.load 2 true (.t 18)), 5, []⟩, ⟨(some 20), .none, (.call 57 [(.t 19)]), 6, []⟩, ⟨(some 21), .none, (.iadr 2 (.t 14) (.t 15)), 7, []⟩, ⟨.none, .none, (.store 2 (.t 21) (.t 20)), 8, []⟩])) (.reg false [⟨(some 12), .none, (.mov (.t 4)), 0, []⟩, ⟨(some 13), .none, (.bin .add (.t 12) (.c (.int .i64 1))), 1, []⟩, ⟨(some 4), .none, (.mov (.t 13)), 2, []⟩])))))) (.seq (.reg false [⟨(some 22), .none, (.mov (.t 3)), 0, []⟩, ⟨(some 2), .none, (.mov (.t 22)), 1, []⟩]) .ret)))), [(.t 2)]⟩
theorem k17 : EE.fns 17 = some c17 := by kernel_rfl
def c18 : CF := ⟨40, (.seq (.reg false [⟨(some 2), .none, (.mov (.c (.bool false))), 0, []⟩]) (.seq (.seq (.reg false [⟨(some 5), .none, (.mov (.t 0)), 0, []⟩, ⟨(some 6), .none, (.lenS (.t 5)), 1, []⟩, ⟨(some 7), .none, (.mov (.c (.int .i64 0))), 2, []⟩]) (.block 0 (.loop (.seq (.reg false [⟨(some 8), .none, (.bin .lss (.t 7) (.t 6)), 0, []⟩]) (.seq (.cond (.t 8) .skip (.exit 0)) (.seq (.block 1 (.seq (.reg false [⟨(some 9), .none, (.mov (.t 7)), 0, []⟩, ⟨(some 10), .none, (.iadr 2 (.t 5) (.t 7)), 1, []⟩, ⟨(some 11), .none, (.load 2 true (.t 10)), 2, []⟩, ⟨(some 4), .none, (.newV [(.int .i64 0), (.int .i64 0)]), 3, []⟩, ⟨(some 3), .none, (.mov (.t 9)), 4, []⟩, ⟨.none, .none, (.store 2 (.t 4) (.t 11)), 5, []⟩]) (.seq (.reg true [⟨(some 12), .none, (.fadr 0 (.t 4)), 0, []⟩, ⟨(some 13), .none, (.load 1 false (.t 12)), 1, [0]⟩, ⟨(some 14), .none, (.call 58 [(.t 13)]), 2, [1, 0]⟩, ⟨(some 15), .none, (.un .not (.t 14)), 3, [2, 1, 0]⟩, ⟨(some 16), .none, (.mov (.t 15)), 4, [3, 2, 1, 0]⟩, ⟨(some 17), (.some (16, false)), (.fadr 1 (.t 4)), 5, [4, 3, 2, 1, 0]⟩, ⟨(some 18), (.some (16, false)), (.load 1 false (.t 17)), 6, [5, 4, 3, 2, 1, 0]⟩, ⟨(some 19), (.some (16, false)), (.call 58 [(.t 18)]), 7, [6, 5, 4, 3, 2, 1, 0]⟩, ⟨(some 20), (.some (16, false)), (.un .not (.t 19)), 8, [7, 6, 5, 4, 3, 2, 1, 0]⟩, ⟨(some 21), .none, (.pick (.t 16) (.c (.bool true)) (.t 20)), 9, [4, 3, 2, 1, 0, 8, 7, 6, 5]⟩, ⟨(some 22), .none, (.mov (.t 21)), 10, [9, 4, 3, 2, 1, 0, 8, 7, 6, 5]⟩, ⟨(some 23), (.some (22, false)), (.fadr 0 (.t 4)), 11, [10, 9, 4, 3, 2, 1, 0, 8, 7, 6, 5]⟩, ⟨(some 24), (.some (22, false)), (.load 1 false (.t 23)), 12, [11, 10, 9, 4, 3, 2, 1, 0, 8, 7, 6, 5]⟩, ⟨(some 25), (.some (22, false)), (.fadr 1 (.t 4)), 13, [10, 9, 4, 3, 2, 1, 0, 8, 7, 6, 5]⟩, ⟨(some 26), (.some (22, false)), (.load 1 false (.t 25)), 14, [13, 10, 9, 4, 3, 2, 1, 0, 8, 7, 6, 5]⟩, ⟨(some 27), (.some (22, false)), (.bin .eql (.t 24) (.t 26)), 15, [12, 11, 10, 9, 4, 3, 2, 1, 0, 8, 7, 6, 5, 14, 13]⟩, ⟨(some 28), .none, (.pick (.t 22) (.c (.bool true)) (.t 27)), 16, [10, 9, 4, 3, 2, 1, 0, 8, 7, 6, 5, 15, 12, 11, 14, 13]⟩, ⟨(some 29), .none, (.mov (.t 28)), 17, [16, 10, 9, 4, 3, 2, 1, 0, 8, 7, 6, 5, 15, 12, 11, 14, 13]⟩, ⟨(some 30), (.some (29, false)), (.mov (.t 0)), 18, [17, 16, 10, 9, 4, 3, 2, 1, 0, 8, 7, 6, 5, 15, 12, 11, 14, 13]⟩, ⟨(some 31), (.some (29, false)), (.mov (.t 3)), 19, [17, 16, 10, 9, 4, 3, 2, 1, 0, 8, 7, 6, 5, 15, 12, 11, 14, 13]⟩, ⟨(some 32), (.some (29, false)), (.slc 2 (.t 30) .none (.some (.t 31))), 20, [18, 17, 16, 10, 9, 4, 3, 2, 1, 0, 8, 7, 6, 5, 15, 12, 11, 14, 13, 19]⟩, ⟨(some 33), (.some (29, false)), (.load 2 true (.t 4)), 21, [17, 16, 10, 9, 4, 3, 2, 1, 0, 8, 7, 6, 5, 15, 12, 11, 14, 13]⟩, ⟨(some 34), (.some (29, false)), (.call 59 [(.t 32), (.t 33)]), 22, [20, 18, 17, 16, 10, 9, 4, 3, 2, 1, 0, 8, 7, 6, 5, 15, 12, 11, 14, 13, 19, 21]⟩, ⟨(some 35), .none, (.pick (.t 29) (.c (.bool true)) (.t 34)), 23, [17, 16, 10, 9, 4, 3, 2, 1, 0, 8, 7, 6, 5, 15, 12, 11, 14, 13, 22, 20, 18, 19, 21]⟩]) (.cond (.t 35) (.seq (.reg false [⟨(some 2), .none, (.mov (.c (.bool false))), 0, []⟩]) .ret) .skip)))) (.reg false [⟨(some 36), .none, (.bin .add (.t 7) (.c (.int .i64 1))), 0, []⟩, ⟨(some 7), .none, (.mov (.t 36)), 1, []⟩]))))))) (.seq (.reg false [⟨(some 37), .none, (.mov (.t 0)), 0, []⟩, ⟨(some 38), .none, (.lenS (.t 37)), 1, []⟩, ⟨(some 39), .none, (.bin .leq (.t 38) (.c (.int .i64 30))), 2, []⟩, ⟨(some 2), .none, (.mov (.t 39)), 3, []⟩]) .ret))), [(.t 2)]⟩
theorem k18 : EE.fns 18 = some c18 := by kernel_rfl
def c55 : CF := ⟨9, (.seq (.reg false [⟨(some 2), .none, (.mov (.c (.bool false))), 0, []⟩]) (.seq (.reg false [⟨(some 3), .none, (.mov (.t 0)), 0, []⟩, ⟨(some 4), .none, (.bin .geq (.t 3) (.c (.int .i64 0))), 1, []⟩, ⟨(some 5), .none, (.mov (.t 4)), 2, []⟩, ⟨(some 6), (.some (5, true)), (.mov (.t 0)), 3, []⟩, ⟨(some 7), (.some (5, true)), (.bin .lss (.t 6) (.c (.int .i64 8))), 4, []⟩, ⟨(some 8), .none, (.pick (.t 5) (.t 7) (.c (.bool false))), 5, []⟩, ⟨(some 2), .none, (.mov (.t 8)), 6, []⟩]) .ret)), [(.t 2)]⟩
theorem k55 : EE.fns 55 = some c55 := by kernel_rfl
def c56 : CF := ⟨18, (.seq (.reg false [⟨(some 3), .none, (.boxV (.t 1)), 0, []⟩, ⟨(some 4), .none, (.mov (.c (.bool false))), 1, []⟩]) (.seq (.seq (.reg false [⟨(some 5), .none, (.mov (.c (.int .i64 0))), 0, []⟩]) (.block 0 (.loop (.seq (.seq (.reg false [⟨(some 6), .none, (.mov (.t 5)), 0, []⟩, ⟨(some 7), .none, (.mov (.t 0)), 1, []⟩, ⟨(some 8), .none, (.lenS (.t 7)), 2, []⟩, ⟨(some 9), .none, (.bin .lss (.t 6) (.t 8)), 3, []⟩]) (.cond (.t 9) .skip (.exit 0))) (.seq (.block 1 (.seq (.reg true [⟨(some 12), .none, (.mov (.t 0)), 0, []⟩, ⟨(some 13), .none, (.mov (.t 5)), 1, []⟩, ⟨(some 14), .none, (.iadr 2 (.t 12) (.t 13)), 2, [0, 1]⟩, ⟨(some 15), .none, (.load 2 true (.t 14)), 3, [2, 0, 1]⟩, ⟨(some 16), .none, (.load 2 true (.t 3)), 4, []⟩, ⟨(some 17), .none, (.aeq false [0, 0] (.t 15) (.t 16)), 5, [3, 2, 0, 1, 4]⟩]) (.cond (.t 17) (.seq (.reg false [⟨(some 4), .none, (.mov (.c (.bool true))), 0, []⟩]) .ret) .skip))) (.reg false [⟨(some 10), .none, (.mov (.t 5)), 0, []⟩, ⟨(some 11), .none, (.bin .add (.t 10) (.c (.int .i64 1))), 1, []⟩, ⟨(some 5), .none, (.mov (.t 11)), 2, []⟩])))))) (.seq (.reg false [⟨(some 4), .none, (.mov (.c (.bool false))), 0, []⟩]) .ret))), [(.t 4)]⟩
theorem k56 : EE.fns 56 = some c56 := by kernel_rfl
def c58 : CF := ⟨5, (.seq (.reg false [⟨(some 2), .none, (.mov (.c (.bool false))), 0, []⟩]) (.seq (.reg false [⟨(some 3), .none, (.mov (.t 0)), 0, []⟩, ⟨(some 4), .none, (.call 78 [(.t 3), (.c (.int .i64 0)), (.c (.int .i64 7))]), 1, []⟩, ⟨(some 2), .none, (.mov (.t 4)), 2, []⟩]) .ret)), [(.t 2)]⟩
theorem k58 : EE.fns 58 = some c58 := by kernel_rfl
def c59 : CF := ⟨9, (.seq (.reg false [⟨(some 3), .none, (.boxV (.t 1)), 0, []⟩, ⟨(some 4), .none, (.mov (.c (.bool false))), 1, []⟩]) (.seq (.reg false [⟨(some 5), .none, (.mov (.t 0)), 0, []⟩, ⟨(some 6), .none, (.load 2 true (.t 3)), 1, []⟩, ⟨(some 7), .none, (.call 84 [(.t 5), (.t 6)]), 2, []⟩, ⟨(some 8), .none, (.bin .geq (.t 7) (.c (.int .i64 0))), 3, []⟩, ⟨(some 4), .none, (.mov (.t 8)), 4, []⟩]) .ret)), [(.t 4)]⟩
theorem k59 : EE.fns 59 = some c59 := by kernel_rfl
def c78 : CF := ⟨15, (.seq (.reg false [⟨(some 6), .none, (.mov (.c (.bool false))), 0, []⟩]) (.seq (.reg false [⟨(some 7), .none, (.mov (.t 0)), 0, []⟩, ⟨(some 8), .none, (.mov (.t 1)), 1, []⟩, ⟨(some 9), .none, (.bin .geq (.t 7) (.t 8)), 2, []⟩, ⟨(some 10), .none, (.mov (.t 9)), 3, []⟩, ⟨(some 11), (.some (10, true)), (.mov (.t 0)), 4, []⟩, ⟨(some 12), (.some (10, true)), (.mov (.t 2)), 5, []⟩, ⟨(some 13), (.some (10, true)), (.bin .leq (.t 11) (.t 12)), 6, []⟩, ⟨(some 14), .none, (.pick (.t 10) (.t 13) (.c (.bool false))), 7, []⟩, ⟨(some 6), .none, (.mov (.t 14)), 8, []⟩]) .ret)), [(.t 6)]⟩
theorem k78 : EE.fns 78 = some c78 := by kernel_rfl
def c84 : CF := ⟨19, (.seq (.reg false [⟨(some 3), .none, (.boxV (.t 1)), 0, []⟩, ⟨(some 4), .none, (.mov (.c (.int .i64 0))), 1, []⟩]) (.seq (.seq (.reg false [⟨(some 6), .none, (.mov (.t 0)), 0, []⟩, ⟨(some 7), .none, (.lenS (.t 6)), 1, []⟩, ⟨(some 8), .none, (.mov (.c (.int .i64 0))), 2, []⟩]) (.block 0 (.loop (.seq (.reg false [⟨(some 9), .none, (.bin .lss (.t 8) (.t 7)), 0, []⟩]) (.seq (.cond (.t 9) .skip (.exit 0)) (.seq (.block 1 (.seq (.reg false [⟨(some 10), .none, (.mov (.t 8)), 0, []⟩, ⟨(some 5), .none, (.mov (.t 10)), 1, []⟩]) (.seq (.reg true [⟨(some 11), .none, (.load 2 true (.t 3)), 0, []⟩, ⟨(some 12), .none, (.mov (.t 0)), 1, []⟩, ⟨(some 13), .none, (.mov (.t 5)), 2, []⟩, ⟨(some 14), .none, (.iadr 2 (.t 12) (.t 13)), 3, [1, 2]⟩, ⟨(some 15), .none, (.load 2 true (.t 14)), 4, [3, 1, 2]⟩, ⟨(some 16), .none, (.aeq false [0, 0] (.t 11) (.t 15)), 5, [0, 4, 3, 1, 2]⟩]) (.cond (.t 16) (.seq (.reg false [⟨(some 17), .none, (.mov (.t 5)), 0, []⟩, ⟨(some 4), .none, (.mov (.t 17)), 1, []⟩]) .ret) .skip)))) (.reg false [⟨(some 18), .none, (.bin .add (.t 8) (.c (.int .i64 1))), 0, []⟩, ⟨(some 8), .none, (.mov (.t 18)), 1, []⟩]))))))) (.seq (.reg false [⟨(some 4), .none, (.mov (.c (.int .i64 (-1)))), 0, []⟩]) .ret))), [(.t 4)]⟩
theorem k84 : EE.fns 84 = some c84 := by kernel_rfl
end Go.Proofs.Ytdplmjlbkaipiaa.Ev

/- Ways between realms: the small functions. -/
namespace Go.Proofs.Ytdplmjlbkaipiaa.Ev
set_option linter.all false
open Go
set_option maxRecDepth 4000

abbrev Hop := Int × Int
def eH (h : Hop) : List Value := [.int .i64 h.1, .int .i64 h.2]
def vH (h : Hop) : Value := .agg #[.int .i64 h.1, .int .i64 h.2]
def inR (r : Int) : Bool := decide (0 ≤ r) && decide (r < 8)

theorem f78 {H : Hp} {a b c : Int} : Scal EE 78 [.int .i64 a, .int .i64 b, .int .i64 c] H (.bool (decide (a ≥ b) && decide (a ≤ c))) := by
  refine scal_ok rfl rfl k78 (by simp [c78]) rfl fun m hw => ?_
  simp only [go_nil, go_blk, go_skip, go_ret, go_exit, go_seq, go_block, go_reg, go_r0, go_r, go_d0, go_d, go_cond, go_o, go_g, aft_some, cnd_bool, grd_bool, grd_tup, brT_true, brT_false, brT_not, thr_exit, thr_c, thr_nil, stp, stepK, movK, mv1, ex, exv, exvs, upd_some, upd_none, ini, St.val, binK, binV, ofV, pickK, unK, unV, beqK, beq_true, beq_false, if_true, if_false, List.getElem?_cons_zero, List.getElem?_cons_succ, ↓reduceIte, Nat.reduceEqDiff, reduceCtorEq, loadK, adr, deref, Ad.fv, Ad.live, fadrK, List.length_cons, List.length_nil, List.drop_zero, List.drop_succ_cons, List.take_succ_cons, List.take_zero, Nat.reduceAdd, Nat.reduceLeDiff, Nat.zero_add, Nat.add_zero, aeqK, agEq, scEq, boxVK, newVK, exc, vc_agg, vc_int, vc_bool, vc_str, vc_ptr, vc_sl, vc_fn, boxOf, adInf, List.reverse_cons, List.reverse_nil, List.nil_append, List.cons_append, extK, Bool.and_true, Bool.true_and, Bool.not_true, Bool.not_false, resT, resVs, resV, true_and, and_true, storeK, spl_nil, spl_z, spl_1, spl_2, spl_3, spl_4, spl_5, spl_6, spl_7, spl_8, scal_int, scal_bool, scal_str, scal_nil, implies_true, Bool.and_self, Post_ret, Post_normal, PostS_ret, PostS_normal, retT_true, retT_false, flat_bool, flat_int, flat_str, List.take_length, decide_true, decide_false, Option.some.injEq, Value.bool.injEq, Value.int.injEq, Bool.false_and, Bool.and_false, not_false_eq_true, not_true_eq_false, toIntK, List.length_set, Nat.reduceMul, Bool.not_eq_true, Bool.not_eq_false, List.all_cons, List.all_nil, exps, fillL, buildK, strK, nilcK, fnK, callVT, List.size_toArray, List.append_nil, List.singleton_append, boxOK, newOK, scal_nil, List.isEmpty_nil, List.isEmpty_cons, mkVK, mkOK, mkCells, zeros_0, zeros_1, zeros_2, zeros_3, zeros_4, List.map_cons, List.map_nil, c78]
  refine brT.intro (fun h1 => ?_) (fun h1 => ?_) <;> simp only [go_nil, go_blk, go_skip, go_ret, go_exit, go_seq, go_block, go_reg, go_r0, go_r, go_d0, go_d, go_cond, go_o, go_g, aft_some, cnd_bool, grd_bool, grd_tup, brT_true, brT_false, brT_not, thr_exit, thr_c, thr_nil, stp, stepK, movK, mv1, ex, exv, exvs, upd_some, upd_none, ini, St.val, binK, binV, ofV, pickK, unK, unV, beqK, beq_true, beq_false, if_true, if_false, List.getElem?_cons_zero, List.getElem?_cons_succ, ↓reduceIte, Nat.reduceEqDiff, reduceCtorEq, loadK, adr, deref, Ad.fv, Ad.live, fadrK, List.length_cons, List.length_nil, List.drop_zero, List.drop_succ_cons, List.take_succ_cons, List.take_zero, Nat.reduceAdd, Nat.reduceLeDiff, Nat.zero_add, Nat.add_zero, aeqK, agEq, scEq, boxVK, newVK, exc, vc_agg, vc_int, vc_bool, vc_str, vc_ptr, vc_sl, vc_fn, boxOf, adInf, List.reverse_cons, List.reverse_nil, List.nil_append, List.cons_append, extK, Bool.and_true, Bool.true_and, Bool.not_true, Bool.not_false, resT, resVs, resV, true_and, and_true, storeK, spl_nil, spl_z, spl_1, spl_2, spl_3, spl_4, spl_5, spl_6, spl_7, spl_8, scal_int, scal_bool, scal_str, scal_nil, implies_true, Bool.and_self, Post_ret, Post_normal, PostS_ret, PostS_normal, retT_true, retT_false, flat_bool, flat_int, flat_str, List.take_length, decide_true, decide_false, Option.some.injEq, Value.bool.injEq, Value.int.injEq, Bool.false_and, Bool.and_false, not_false_eq_true, not_true_eq_false, toIntK, List.length_set, Nat.reduceMul, Bool.not_eq_true, Bool.not_eq_false, List.all_cons, List.all_nil, exps, fillL, buildK, strK, nilcK, fnK, callVT, List.size_toArray, List.append_nil, List.singleton_append, boxOK, newOK, scal_nil, List.isEmpty_nil, List.isEmpty_cons, mkVK, mkOK, mkCells, zeros_0, zeros_1, zeros_2, zeros_3, zeros_4, List.map_cons, List.map_nil, h1]
theorem c78' {m : Md} {draw : Bool} {s : St} {d : Option Nat} {ts : List Tk} {Q : Ex → St → Prop} {a b c : Int} (hw : Wr m s.H) :
    callT EE m draw 78 (some [.int .i64 a, .int .i64 b, .int .i64 c]) s d ts Q = go EE m ts { s with ρ := upd s.ρ d (.val (.bool (decide (a ≥ b) && decide (a ≤ c)))) } Q := callT_at f78 rfl hw

theorem f58 {H : Hp} {a : Int} : Scal EE 58 [.int .i64 a] H (.bool (inR a)) := by
  refine scal_ok rfl rfl k58 (by simp [c58]) rfl fun m hw => ?_
  simp only [go_nil, go_blk, go_skip, go_ret, go_exit, go_seq, go_block, go_reg, go_r0, go_r, go_d0, go_d, go_cond, go_o, go_g, aft_some, cnd_bool, grd_bool, grd_tup, brT_true, brT_false, brT_not, thr_exit, thr_c, thr_nil, stp, stepK, movK, mv1, ex, exv, exvs, upd_some, upd_none, ini, St.val, binK, binV, ofV, pickK, unK, unV, beqK, beq_true, beq_false, if_true, if_false, List.getElem?_cons_zero, List.getElem?_cons_succ, ↓reduceIte, Nat.reduceEqDiff, reduceCtorEq, loadK, adr, deref, Ad.fv, Ad.live, fadrK, List.length_cons, List.length_nil, List.drop_zero, List.drop_succ_cons, List.take_succ_cons, List.take_zero, Nat.reduceAdd, Nat.reduceLeDiff, Nat.zero_add, Nat.add_zero, aeqK, agEq, scEq, boxVK, newVK, exc, vc_agg, vc_int, vc_bool, vc_str, vc_ptr, vc_sl, vc_fn, boxOf, adInf, List.reverse_cons, List.reverse_nil, List.nil_append, List.cons_append, extK, Bool.and_true, Bool.true_and, Bool.not_true, Bool.not_false, resT, resVs, resV, true_and, and_true, storeK, spl_nil, spl_z, spl_1, spl_2, spl_3, spl_4, spl_5, spl_6, spl_7, spl_8, scal_int, scal_bool, scal_str, scal_nil, implies_true, Bool.and_self, Post_ret, Post_normal, PostS_ret, PostS_normal, retT_true, retT_false, flat_bool, flat_int, flat_str, List.take_length, decide_true, decide_false, Option.some.injEq, Value.bool.injEq, Value.int.injEq, Bool.false_and, Bool.and_false, not_false_eq_true, not_true_eq_false, toIntK, List.length_set, Nat.reduceMul, Bool.not_eq_true, Bool.not_eq_false, List.all_cons, List.all_nil, exps, fillL, buildK, strK, nilcK, fnK, callVT, List.size_toArray, List.append_nil, List.singleton_append, boxOK, newOK, scal_nil, List.isEmpty_nil, List.isEmpty_cons, mkVK, mkOK, mkCells, zeros_0, zeros_1, zeros_2, zeros_3, zeros_4, List.map_cons, List.map_nil, c58, c78', hw]
  unfold inR
  rw [Bool.eq_iff_iff]
  simp
  omega
theorem c58' {m : Md} {draw : Bool} {s : St} {d : Option Nat} {ts : List Tk} {Q : Ex → St → Prop} {a : Int} (hw : Wr m s.H) :
    callT EE m draw 58 (some [.int .i64 a]) s d ts Q = go EE m ts { s with ρ := upd s.ρ d (.val (.bool (inR a))) } Q := callT_at f58 rfl hw

theorem f55 {H : Hp} {a : Int} : Scal EE 55 [.int .i64 a] H (.bool (inR a)) := by
  refine scal_ok rfl rfl k55 (by simp [c55]) rfl fun m hw => ?_
  simp only [go_nil, go_blk, go_skip, go_ret, go_exit, go_seq, go_block, go_reg, go_r0, go_r, go_d0, go_d, go_cond, go_o, go_g, aft_some, cnd_bool, grd_bool, grd_tup, brT_true, brT_false, brT_not, thr_exit, thr_c, thr_nil, stp, stepK, movK, mv1, ex, exv, exvs, upd_some, upd_none, ini, St.val, binK, binV, ofV, pickK, unK, unV, beqK, beq_true, beq_false, if_true, if_false, List.getElem?_cons_zero, List.getElem?_cons_succ, ↓reduceIte, Nat.reduceEqDiff, reduceCtorEq, loadK, adr, deref, Ad.fv, Ad.live, fadrK, List.length_cons, List.length_nil, List.drop_zero, List.drop_succ_cons, List.take_succ_cons, List.take_zero, Nat.reduceAdd, Nat.reduceLeDiff, Nat.zero_add, Nat.add_zero, aeqK, agEq, scEq, boxVK, newVK, exc, vc_agg, vc_int, vc_bool, vc_str, vc_ptr, vc_sl, vc_fn, boxOf, adInf, List.reverse_cons, List.reverse_nil, List.nil_append, List.cons_append, extK, Bool.and_true, Bool.true_and, Bool.not_true, Bool.not_false, resT, resVs, resV, true_and, and_true, storeK, spl_nil, spl_z, spl_1, spl_2, spl_3, spl_4, spl_5, spl_6, spl_7, spl_8, scal_int, scal_bool, scal_str, scal_nil, implies_true, Bool.and_self, Post_ret, Post_normal, PostS_ret, PostS_normal, retT_true, retT_false, flat_bool, flat_int, flat_str, List.take_length, decide_true, decide_false, Option.some.injEq, Value.bool.injEq, Value.int.injEq, Bool.false_and, Bool.and_false, not_false_eq_true, not_true_eq_false, toIntK, List.length_set, Nat.reduceMul, Bool.not_eq_true, Bool.not_eq_false, List.all_cons, List.all_nil, exps, fillL, buildK, strK, nilcK, fnK, callVT, List.size_toArray, List.append_nil, List.singleton_append, boxOK, newOK, scal_nil, List.isEmpty_nil, List.isEmpty_cons, mkVK, mkOK, mkCells, zeros_0, zeros_1, zeros_2, zeros_3, zeros_4, List.map_cons, List.map_nil, c55]
  refine brT.intro (fun h1 => ?_) (fun h1 => ?_) <;> simp only [go_nil, go_blk, go_skip, go_ret, go_exit, go_seq, go_block, go_reg, go_r0, go_r, go_d0, go_d, go_cond, go_o, go_g, aft_some, cnd_bool, grd_bool, grd_tup, brT_true, brT_false, brT_not, thr_exit, thr_c, thr_nil, stp, stepK, movK, mv1, ex, exv, exvs, upd_some, upd_none, ini, St.val, binK, binV, ofV, pickK, unK, unV, beqK, beq_true, beq_false, if_true, if_false, List.getElem?_cons_zero, List.getElem?_cons_succ, ↓reduceIte, Nat.reduceEqDiff, reduceCtorEq, loadK, adr, deref, Ad.fv, Ad.live, fadrK, List.length_cons, List.length_nil, List.drop_zero, List.drop_succ_cons, List.take_succ_cons, List.take_zero, Nat.reduceAdd, Nat.reduceLeDiff, Nat.zero_add, Nat.add_zero, aeqK, agEq, scEq, boxVK, newVK, exc, vc_agg, vc_int, vc_bool, vc_str, vc_ptr, vc_sl, vc_fn, boxOf, adInf, List.reverse_cons, List.reverse_nil, List.nil_append, List.cons_append, extK, Bool.and_true, Bool.true_and, Bool.not_true, Bool.not_false, resT, resVs, resV, true_and, and_true, storeK, spl_nil, spl_z, spl_1, spl_2, spl_3, spl_4, spl_5, spl_6, spl_7, spl_8, scal_int, scal_bool, scal_str, scal_nil, implies_true, Bool.and_self, Post_ret, Post_normal, PostS_ret, PostS_normal, retT_true, retT_false, flat_bool, flat_int, flat_str, List.take_length, decide_true, decide_false, Option.some.injEq, Value.bool.injEq, Value.int.injEq, Bool.false_and, Bool.and_false, not_false_eq_true, not_true_eq_false, toIntK, List.length_set, Nat.reduceMul, Bool.not_eq_true, Bool.not_eq_false, List.all_cons, List.all_nil, exps, fillL, buildK, strK, nilcK, fnK, callVT, List.size_toArray, List.append_nil, List.singleton_append, boxOK, newOK, scal_nil, List.isEmpty_nil, List.isEmpty_cons, mkVK, mkOK, mkCells, zeros_0, zeros_1, zeros_2, zeros_3, zeros_4, List.map_cons, List.map_nil, h1]
  · simp at h1
    simp [inR, h1]
  · simp at h1
    simp [inR]
    omega
theorem c55' {m : Md} {draw : Bool} {s : St} {d : Option Nat} {ts : List Tk} {Q : Ex → St → Prop} {a : Int} (hw : Wr m s.H) :
    callT EE m draw 55 (some [.int .i64 a]) s d ts Q = go EE m ts { s with ρ := upd s.ρ d (.val (.bool (inR a))) } Q := callT_at f55 rfl hw

theorem notin_succ {α : Type} {l : List α} {h : α} {i : Nat} (hi : i < l.length) (h1 : h ∉ l.take i) (h2 : l[i] ≠ h) : h ∉ l.take (i + 1) := by
  intro hm
  rw [List.take_succ_eq_append_getElem hi] at hm
  rcases List.mem_append.1 hm with a | a
  · exact h1 a
  · exact h2 (List.mem_singleton.1 a).symm

theorem f56 {H : Hp} {v : Value} {l : List Hop} {h : Hop} (hl : Sl (En eH) 2 H v l) : Scal EE 56 [v, vH h] H (.bool (decide (h ∈ l))) := by
  refine scal_ok rfl rfl k56 (by simp [c56]) rfl fun m hw => ?_
  have hroom := hl.room
  simp only [go_nil, go_blk, go_skip, go_ret, go_exit, go_seq, go_block, go_reg, go_r0, go_r, go_d0, go_d, go_cond, go_o, go_g, aft_some, cnd_bool, grd_bool, grd_tup, brT_true, brT_false, brT_not, thr_exit, thr_c, thr_nil, stp, stepK, movK, mv1, ex, exv, exvs, upd_some, upd_none, ini, St.val, binK, binV, ofV, pickK, unK, unV, beqK, beq_true, beq_false, if_true, if_false, List.getElem?_cons_zero, List.getElem?_cons_succ, ↓reduceIte, Nat.reduceEqDiff, reduceCtorEq, loadK, adr, deref, Ad.fv, Ad.live, fadrK, List.length_cons, List.length_nil, List.drop_zero, List.drop_succ_cons, List.take_succ_cons, List.take_zero, Nat.reduceAdd, Nat.reduceLeDiff, Nat.zero_add, Nat.add_zero, aeqK, agEq, scEq, boxVK, newVK, exc, vc_agg, vc_int, vc_bool, vc_str, vc_ptr, vc_sl, vc_fn, boxOf, adInf, List.reverse_cons, List.reverse_nil, List.nil_append, List.cons_append, extK, Bool.and_true, Bool.true_and, Bool.not_true, Bool.not_false, resT, resVs, resV, true_and, and_true, storeK, spl_nil, spl_z, spl_1, spl_2, spl_3, spl_4, spl_5, spl_6, spl_7, spl_8, scal_int, scal_bool, scal_str, scal_nil, implies_true, Bool.and_self, Post_ret, Post_normal, PostS_ret, PostS_normal, retT_true, retT_false, flat_bool, flat_int, flat_str, List.take_length, decide_true, decide_false, Option.some.injEq, Value.bool.injEq, Value.int.injEq, Bool.false_and, Bool.and_false, not_false_eq_true, not_true_eq_false, toIntK, List.length_set, Nat.reduceMul, Bool.not_eq_true, Bool.not_eq_false, List.all_cons, List.all_nil, exps, fillL, buildK, strK, nilcK, fnK, callVT, List.size_toArray, List.append_nil, List.singleton_append, boxOK, newOK, scal_nil, List.isEmpty_nil, List.isEmpty_cons, mkVK, mkOK, mkCells, zeros_0, zeros_1, zeros_2, zeros_3, zeros_4, List.map_cons, List.map_nil, c56, vH]
  refine go_for l.length (fun i s => s.H = H ∧ s.ρ 0 = .val v ∧ s.ρ 3 = .bx 0 [.int .i64 h.1, .int .i64 h.2] ∧ s.ρ 5 = .val (.int .i64 i) ∧ h ∉ l.take i) (fun s => s.H = H ∧ h ∉ l) (by simp [upd, ini]) ?_ ?_
  · rintro i s hi ⟨hH, h0, h3, h5, hn⟩
    simp only [go_nil, go_blk, go_skip, go_ret, go_exit, go_seq, go_block, go_reg, go_r0, go_r, go_d0, go_d, go_cond, go_o, go_g, aft_some, cnd_bool, grd_bool, grd_tup, brT_true, brT_false, brT_not, thr_exit, thr_c, thr_nil, stp, stepK, movK, mv1, ex, exv, exvs, upd_some, upd_none, ini, St.val, binK, binV, ofV, pickK, unK, unV, beqK, beq_true, beq_false, if_true, if_false, List.getElem?_cons_zero, List.getElem?_cons_succ, ↓reduceIte, Nat.reduceEqDiff, reduceCtorEq, loadK, adr, deref, Ad.fv, Ad.live, fadrK, List.length_cons, List.length_nil, List.drop_zero, List.drop_succ_cons, List.take_succ_cons, List.take_zero, Nat.reduceAdd, Nat.reduceLeDiff, Nat.zero_add, Nat.add_zero, aeqK, agEq, scEq, boxVK, newVK, exc, vc_agg, vc_int, vc_bool, vc_str, vc_ptr, vc_sl, vc_fn, boxOf, adInf, List.reverse_cons, List.reverse_nil, List.nil_append, List.cons_append, extK, Bool.and_true, Bool.true_and, Bool.not_true, Bool.not_false, resT, resVs, resV, true_and, and_true, storeK, spl_nil, spl_z, spl_1, spl_2, spl_3, spl_4, spl_5, spl_6, spl_7, spl_8, scal_int, scal_bool, scal_str, scal_nil, implies_true, Bool.and_self, Post_ret, Post_normal, PostS_ret, PostS_normal, retT_true, retT_false, flat_bool, flat_int, flat_str, List.take_length, decide_true, decide_false, Option.some.injEq, Value.bool.injEq, Value.int.injEq, Bool.false_and, Bool.and_false, not_false_eq_true, not_true_eq_false, toIntK, List.length_set, Nat.reduceMul, Bool.not_eq_true, Bool.not_eq_false, List.all_cons, List.all_nil, exps, fillL, buildK, strK, nilcK, fnK, callVT, List.size_toArray, List.append_nil, List.singleton_append, boxOK, newOK, scal_nil, List.isEmpty_nil, List.isEmpty_cons, mkVK, mkOK, mkCells, zeros_0, zeros_1, zeros_2, zeros_3, zeros_4, List.map_cons, List.map_nil, h0, h3, h5, hl.len]
    refine brT.intro (fun h1 => ?_) (fun h1 => ?_) <;> simp only [go_nil, go_blk, go_skip, go_ret, go_exit, go_seq, go_block, go_reg, go_r0, go_r, go_d0, go_d, go_cond, go_o, go_g, aft_some, cnd_bool, grd_bool, grd_tup, brT_true, brT_false, brT_not, thr_exit, thr_c, thr_nil, stp, stepK, movK, mv1, ex, exv, exvs, upd_some, upd_none, ini, St.val, binK, binV, ofV, pickK, unK, unV, beqK, beq_true, beq_false, if_true, if_false, List.getElem?_cons_zero, List.getElem?_cons_succ, ↓reduceIte, Nat.reduceEqDiff, reduceCtorEq, loadK, adr, deref, Ad.fv, Ad.live, fadrK, List.length_cons, List.length_nil, List.drop_zero, List.drop_succ_cons, List.take_succ_cons, List.take_zero, Nat.reduceAdd, Nat.reduceLeDiff, Nat.zero_add, Nat.add_zero, aeqK, agEq, scEq, boxVK, newVK, exc, vc_agg, vc_int, vc_bool, vc_str, vc_ptr, vc_sl, vc_fn, boxOf, adInf, List.reverse_cons, List.reverse_nil, List.nil_append, List.cons_append, extK, Bool.and_true, Bool.true_and, Bool.not_true, Bool.not_false, resT, resVs, resV, true_and, and_true, storeK, spl_nil, spl_z, spl_1, spl_2, spl_3, spl_4, spl_5, spl_6, spl_7, spl_8, scal_int, scal_bool, scal_str, scal_nil, implies_true, Bool.and_self, Post_ret, Post_normal, PostS_ret, PostS_normal, retT_true, retT_false, flat_bool, flat_int, flat_str, List.take_length, decide_true, decide_false, Option.some.injEq, Value.bool.injEq, Value.int.injEq, Bool.false_and, Bool.and_false, not_false_eq_true, not_true_eq_false, toIntK, List.length_set, Nat.reduceMul, Bool.not_eq_true, Bool.not_eq_false, List.all_cons, List.all_nil, exps, fillL, buildK, strK, nilcK, fnK, callVT, List.size_toArray, List.append_nil, List.singleton_append, boxOK, newOK, scal_nil, List.isEmpty_nil, List.isEmpty_cons, mkVK, mkOK, mkCells, zeros_0, zeros_1, zeros_2, zeros_3, zeros_4, List.map_cons, List.map_nil, h0, h3, h5]
    · have h2 : i < l.length := by simpa using h1
      obtain ⟨id, p, o, ho, hr, hp, hia⟩ := hl.elem (List.getElem?_eq_getElem h2)
      unfold En at hr
      refine go_draw ?_
      simp only [go_nil, go_blk, go_skip, go_ret, go_exit, go_seq, go_block, go_reg, go_r0, go_r, go_d0, go_d, go_cond, go_o, go_g, aft_some, cnd_bool, grd_bool, grd_tup, brT_true, brT_false, brT_not, thr_exit, thr_c, thr_nil, stp, stepK, movK, mv1, ex, exv, exvs, upd_some, upd_none, ini, St.val, binK, binV, ofV, pickK, unK, unV, beqK, beq_true, beq_false, if_true, if_false, List.getElem?_cons_zero, List.getElem?_cons_succ, ↓reduceIte, Nat.reduceEqDiff, reduceCtorEq, loadK, adr, deref, Ad.fv, Ad.live, fadrK, List.length_cons, List.length_nil, List.drop_zero, List.drop_succ_cons, List.take_succ_cons, List.take_zero, Nat.reduceAdd, Nat.reduceLeDiff, Nat.zero_add, Nat.add_zero, aeqK, agEq, scEq, boxVK, newVK, exc, vc_agg, vc_int, vc_bool, vc_str, vc_ptr, vc_sl, vc_fn, boxOf, adInf, List.reverse_cons, List.reverse_nil, List.nil_append, List.cons_append, extK, Bool.and_true, Bool.true_and, Bool.not_true, Bool.not_false, resT, resVs, resV, true_and, and_true, storeK, spl_nil, spl_z, spl_1, spl_2, spl_3, spl_4, spl_5, spl_6, spl_7, spl_8, scal_int, scal_bool, scal_str, scal_nil, implies_true, Bool.and_self, Post_ret, Post_normal, PostS_ret, PostS_normal, retT_true, retT_false, flat_bool, flat_int, flat_str, List.take_length, decide_true, decide_false, Option.some.injEq, Value.bool.injEq, Value.int.injEq, Bool.false_and, Bool.and_false, not_false_eq_true, not_true_eq_false, toIntK, List.length_set, Nat.reduceMul, Bool.not_eq_true, Bool.not_eq_false, List.all_cons, List.all_nil, exps, fillL, buildK, strK, nilcK, fnK, callVT, List.size_toArray, List.append_nil, List.singleton_append, boxOK, newOK, scal_nil, List.isEmpty_nil, List.isEmpty_cons, mkVK, mkOK, mkCells, zeros_0, zeros_1, zeros_2, zeros_3, zeros_4, List.map_cons, List.map_nil, h0, h3, h5, hia, hH, ho, hr, hp, eH]
      refine ⟨by rfl, brT.intro (fun h4 => ?_) (fun h4 => ?_)⟩ <;> simp only [go_nil, go_blk, go_skip, go_ret, go_exit, go_seq, go_block, go_reg, go_r0, go_r, go_d0, go_d, go_cond, go_o, go_g, aft_some, cnd_bool, grd_bool, grd_tup, brT_true, brT_false, brT_not, thr_exit, thr_c, thr_nil, stp, stepK, movK, mv1, ex, exv, exvs, upd_some, upd_none, ini, St.val, binK, binV, ofV, pickK, unK, unV, beqK, beq_true, beq_false, if_true, if_false, List.getElem?_cons_zero, List.getElem?_cons_succ, ↓reduceIte, Nat.reduceEqDiff, reduceCtorEq, loadK, adr, deref, Ad.fv, Ad.live, fadrK, List.length_cons, List.length_nil, List.drop_zero, List.drop_succ_cons, List.take_succ_cons, List.take_zero, Nat.reduceAdd, Nat.reduceLeDiff, Nat.zero_add, Nat.add_zero, aeqK, agEq, scEq, boxVK, newVK, exc, vc_agg, vc_int, vc_bool, vc_str, vc_ptr, vc_sl, vc_fn, boxOf, adInf, List.reverse_cons, List.reverse_nil, List.nil_append, List.cons_append, extK, Bool.and_true, Bool.true_and, Bool.not_true, Bool.not_false, resT, resVs, resV, true_and, and_true, storeK, spl_nil, spl_z, spl_1, spl_2, spl_3, spl_4, spl_5, spl_6, spl_7, spl_8, scal_int, scal_bool, scal_str, scal_nil, implies_true, Bool.and_self, Post_ret, Post_normal, PostS_ret, PostS_normal, retT_true, retT_false, flat_bool, flat_int, flat_str, List.take_length, decide_true, decide_false, Option.some.injEq, Value.bool.injEq, Value.int.injEq, Bool.false_and, Bool.and_false, not_false_eq_true, not_true_eq_false, toIntK, List.length_set, Nat.reduceMul, Bool.not_eq_true, Bool.not_eq_false, List.all_cons, List.all_nil, exps, fillL, buildK, strK, nilcK, fnK, callVT, List.size_toArray, List.append_nil, List.singleton_append, boxOK, newOK, scal_nil, List.isEmpty_nil, List.isEmpty_cons, mkVK, mkOK, mkCells, zeros_0, zeros_1, zeros_2, zeros_3, zeros_4, List.map_cons, List.map_nil, h0, h3, h5, wrap64 ((i : Int) + 1) (by omega) (by omega)]
      · have : h = l[i] := by
          simp at h4
          exact Prod.ext h4.1.symm h4.2.symm
        simp [this]
      · refine ⟨h2, by simp, notin_succ h2 hn ?_⟩
        rintro rfl
        simp at h4
    · have h2 : ¬ i < l.length := by simpa using h1
      rw [List.take_of_length_le (by omega)] at hn
      exact ⟨hH, hn⟩
  · rintro s ⟨hH, hn⟩
    simp only [go_nil, go_blk, go_skip, go_ret, go_exit, go_seq, go_block, go_reg, go_r0, go_r, go_d0, go_d, go_cond, go_o, go_g, aft_some, cnd_bool, grd_bool, grd_tup, brT_true, brT_false, brT_not, thr_exit, thr_c, thr_nil, stp, stepK, movK, mv1, ex, exv, exvs, upd_some, upd_none, ini, St.val, binK, binV, ofV, pickK, unK, unV, beqK, beq_true, beq_false, if_true, if_false, List.getElem?_cons_zero, List.getElem?_cons_succ, ↓reduceIte, Nat.reduceEqDiff, reduceCtorEq, loadK, adr, deref, Ad.fv, Ad.live, fadrK, List.length_cons, List.length_nil, List.drop_zero, List.drop_succ_cons, List.take_succ_cons, List.take_zero, Nat.reduceAdd, Nat.reduceLeDiff, Nat.zero_add, Nat.add_zero, aeqK, agEq, scEq, boxVK, newVK, exc, vc_agg, vc_int, vc_bool, vc_str, vc_ptr, vc_sl, vc_fn, boxOf, adInf, List.reverse_cons, List.reverse_nil, List.nil_append, List.cons_append, extK, Bool.and_true, Bool.true_and, Bool.not_true, Bool.not_false, resT, resVs, resV, true_and, and_true, storeK, spl_nil, spl_z, spl_1, spl_2, spl_3, spl_4, spl_5, spl_6, spl_7, spl_8, scal_int, scal_bool, scal_str, scal_nil, implies_true, Bool.and_self, Post_ret, Post_normal, PostS_ret, PostS_normal, retT_true, retT_false, flat_bool, flat_int, flat_str, List.take_length, decide_true, decide_false, Option.some.injEq, Value.bool.injEq, Value.int.injEq, Bool.false_and, Bool.and_false, not_false_eq_true, not_true_eq_false, toIntK, List.length_set, Nat.reduceMul, Bool.not_eq_true, Bool.not_eq_false, List.all_cons, List.all_nil, exps, fillL, buildK, strK, nilcK, fnK, callVT, List.size_toArray, List.append_nil, List.singleton_append, boxOK, newOK, scal_nil, List.isEmpty_nil, List.isEmpty_cons, mkVK, mkOK, mkCells, zeros_0, zeros_1, zeros_2, zeros_3, zeros_4, List.map_cons, List.map_nil, hH, hn]

noncomputable def idxI {α : Type} [DecidableEq α] (l : List α) (h : α) : Int := if h ∈ l then (l.findIdx fun x => decide (x = h)) else -1
theorem idxI_nonneg {α : Type} [DecidableEq α] {l : List α} {h : α} : 0 ≤ idxI l h ↔ h ∈ l := by
  unfold idxI
  split <;> simp_all
theorem idxI_at {α : Type} [DecidableEq α] {l : List α} {h : α} {i : Nat} (hi : i < l.length) (h1 : h ∉ l.take i) (h2 : l[i] = h) : idxI l h = i := by
  unfold idxI
  rw [if_pos (h2 ▸ List.getElem_mem hi)]
  congr 1
  rw [List.findIdx_eq hi]
  refine ⟨by simp [h2], fun j hj => ?_⟩
  have hjl : j < l.length := by omega
  simp only [decide_eq_false_iff_not]
  rintro rfl
  exact h1 (List.mem_take_iff_getElem.2 ⟨j, by omega, rfl⟩)

theorem f84 {H : Hp} {v : Value} {l : List Hop} {h : Hop} (hl : Sl (En eH) 2 H v l) : Scal EE 84 [v, vH h] H (.int .i64 (idxI l h)) := by
  refine scal_ok rfl rfl k84 (by simp [c84]) rfl fun m hw => ?_
  have hroom := hl.room
  simp only [go_nil, go_blk, go_skip, go_ret, go_exit, go_seq, go_block, go_reg, go_r0, go_r, go_d0, go_d, go_cond, go_o, go_g, aft_some, cnd_bool, grd_bool, grd_tup, brT_true, brT_false, brT_not, thr_exit, thr_c, thr_nil, stp, stepK, movK, mv1, ex, exv, exvs, upd_some, upd_none, ini, St.val, binK, binV, ofV, pickK, unK, unV, beqK, beq_true, beq_false, if_true, if_false, List.getElem?_cons_zero, List.getElem?_cons_succ, ↓reduceIte, Nat.reduceEqDiff, reduceCtorEq, loadK, adr, deref, Ad.fv, Ad.live, fadrK, List.length_cons, List.length_nil, List.drop_zero, List.drop_succ_cons, List.take_succ_cons, List.take_zero, Nat.reduceAdd, Nat.reduceLeDiff, Nat.zero_add, Nat.add_zero, aeqK, agEq, scEq, boxVK, newVK, exc, vc_agg, vc_int, vc_bool, vc_str, vc_ptr, vc_sl, vc_fn, boxOf, adInf, List.reverse_cons, List.reverse_nil, List.nil_append, List.cons_append, extK, Bool.and_true, Bool.true_and, Bool.not_true, Bool.not_false, resT, resVs, resV, true_and, and_true, storeK, spl_nil, spl_z, spl_1, spl_2, spl_3, spl_4, spl_5, spl_6, spl_7, spl_8, scal_int, scal_bool, scal_str, scal_nil, implies_true, Bool.and_self, Post_ret, Post_normal, PostS_ret, PostS_normal, retT_true, retT_false, flat_bool, flat_int, flat_str, List.take_length, decide_true, decide_false, Option.some.injEq, Value.bool.injEq, Value.int.injEq, Bool.false_and, Bool.and_false, not_false_eq_true, not_true_eq_false, toIntK, List.length_set, Nat.reduceMul, Bool.not_eq_true, Bool.not_eq_false, List.all_cons, List.all_nil, exps, fillL, buildK, strK, nilcK, fnK, callVT, List.size_toArray, List.append_nil, List.singleton_append, boxOK, newOK, scal_nil, List.isEmpty_nil, List.isEmpty_cons, mkVK, mkOK, mkCells, zeros_0, zeros_1, zeros_2, zeros_3, zeros_4, List.map_cons, List.map_nil, c84, vH, hl.len]
  refine go_for l.length (fun i s => s.H = H ∧ s.ρ 0 = .val v ∧ s.ρ 3 = .bx 0 [.int .i64 h.1, .int .i64 h.2] ∧ s.ρ 7 = .val (.int .i64 l.length) ∧ s.ρ 8 = .val (.int .i64 i) ∧ h ∉ l.take i) (fun s => s.H = H ∧ h ∉ l) (by simp [upd, ini]) ?_ ?_
  · rintro i s hi ⟨hH, h0, h3, h7, h8, hn⟩
    simp only [go_nil, go_blk, go_skip, go_ret, go_exit, go_seq, go_block, go_reg, go_r0, go_r, go_d0, go_d, go_cond, go_o, go_g, aft_some, cnd_bool, grd_bool, grd_tup, brT_true, brT_false, brT_not, thr_exit, thr_c, thr_nil, stp, stepK, movK, mv1, ex, exv, exvs, upd_some, upd_none, ini, St.val, binK, binV, ofV, pickK, unK, unV, beqK, beq_true, beq_false, if_true, if_false, List.getElem?_cons_zero, List.getElem?_cons_succ, ↓reduceIte, Nat.reduceEqDiff, reduceCtorEq, loadK, adr, deref, Ad.fv, Ad.live, fadrK, List.length_cons, List.length_nil, List.drop_zero, List.drop_succ_cons, List.take_succ_cons, List.take_zero, Nat.reduceAdd, Nat.reduceLeDiff, Nat.zero_add, Nat.add_zero, aeqK, agEq, scEq, boxVK, newVK, exc, vc_agg, vc_int, vc_bool, vc_str, vc_ptr, vc_sl, vc_fn, boxOf, adInf, List.reverse_cons, List.reverse_nil, List.nil_append, List.cons_append, extK, Bool.and_true, Bool.true_and, Bool.not_true, Bool.not_false, resT, resVs, resV, true_and, and_true, storeK, spl_nil, spl_z, spl_1, spl_2, spl_3, spl_4, spl_5, spl_6, spl_7, spl_8, scal_int, scal_bool, scal_str, scal_nil, implies_true, Bool.and_self, Post_ret, Post_normal, PostS_ret, PostS_normal, retT_true, retT_false, flat_bool, flat_int, flat_str, List.take_length, decide_true, decide_false, Option.some.injEq, Value.bool.injEq, Value.int.injEq, Bool.false_and, Bool.and_false, not_false_eq_true, not_true_eq_false, toIntK, List.length_set, Nat.reduceMul, Bool.not_eq_true, Bool.not_eq_false, List.all_cons, List.all_nil, exps, fillL, buildK, strK, nilcK, fnK, callVT, List.size_toArray, List.append_nil, List.singleton_append, boxOK, newOK, scal_nil, List.isEmpty_nil, List.isEmpty_cons, mkVK, mkOK, mkCells, zeros_0, zeros_1, zeros_2, zeros_3, zeros_4, List.map_cons, List.map_nil, h0, h3, h7, h8]
    refine brT.intro (fun h1 => ?_) (fun h1 => ?_) <;> simp only [go_nil, go_blk, go_skip, go_ret, go_exit, go_seq, go_block, go_reg, go_r0, go_r, go_d0, go_d, go_cond, go_o, go_g, aft_some, cnd_bool, grd_bool, grd_tup, brT_true, brT_false, brT_not, thr_exit, thr_c, thr_nil, stp, stepK, movK, mv1, ex, exv, exvs, upd_some, upd_none, ini, St.val, binK, binV, ofV, pickK, unK, unV, beqK, beq_true, beq_false, if_true, if_false, List.getElem?_cons_zero, List.getElem?_cons_succ, ↓reduceIte, Nat.reduceEqDiff, reduceCtorEq, loadK, adr, deref, Ad.fv, Ad.live, fadrK, List.length_cons, List.length_nil, List.drop_zero, List.drop_succ_cons, List.take_succ_cons, List.take_zero, Nat.reduceAdd, Nat.reduceLeDiff, Nat.zero_add, Nat.add_zero, aeqK, agEq, scEq, boxVK, newVK, exc, vc_agg, vc_int, vc_bool, vc_str, vc_ptr, vc_sl, vc_fn, boxOf, adInf, List.reverse_cons, List.reverse_nil, List.nil_append, List.cons_append, extK, Bool.and_true, Bool.true_and, Bool.not_true, Bool.not_false, resT, resVs, resV, true_and, and_true, storeK, spl_nil, spl_z, spl_1, spl_2, spl_3, spl_4, spl_5, spl_6, spl_7, spl_8, scal_int, scal_bool, scal_str, scal_nil, implies_true, Bool.and_self, Post_ret, Post_normal, PostS_ret, PostS_normal, retT_true, retT_false, flat_bool, flat_int, flat_str, List.take_length, decide_true, decide_false, Option.some.injEq, Value.bool.injEq, Value.int.injEq, Bool.false_and, Bool.and_false, not_false_eq_true, not_true_eq_false, toIntK, List.length_set, Nat.reduceMul, Bool.not_eq_true, Bool.not_eq_false, List.all_cons, List.all_nil, exps, fillL, buildK, strK, nilcK, fnK, callVT, List.size_toArray, List.append_nil, List.singleton_append, boxOK, newOK, scal_nil, List.isEmpty_nil, List.isEmpty_cons, mkVK, mkOK, mkCells, zeros_0, zeros_1, zeros_2, zeros_3, zeros_4, List.map_cons, List.map_nil, h0, h3, h7, h8]
    · have h2 : i < l.length := by simpa using h1
      obtain ⟨id, p, o, ho, hr, hp, hia⟩ := hl.elem (List.getElem?_eq_getElem h2)
      unfold En at hr
      refine go_draw ?_
      simp only [go_nil, go_blk, go_skip, go_ret, go_exit, go_seq, go_block, go_reg, go_r0, go_r, go_d0, go_d, go_cond, go_o, go_g, aft_some, cnd_bool, grd_bool, grd_tup, brT_true, brT_false, brT_not, thr_exit, thr_c, thr_nil, stp, stepK, movK, mv1, ex, exv, exvs, upd_some, upd_none, ini, St.val, binK, binV, ofV, pickK, unK, unV, beqK, beq_true, beq_false, if_true, if_false, List.getElem?_cons_zero, List.getElem?_cons_succ, ↓reduceIte, Nat.reduceEqDiff, reduceCtorEq, loadK, adr, deref, Ad.fv, Ad.live, fadrK, List.length_cons, List.length_nil, List.drop_zero, List.drop_succ_cons, List.take_succ_cons, List.take_zero, Nat.reduceAdd, Nat.reduceLeDiff, Nat.zero_add, Nat.add_zero, aeqK, agEq, scEq, boxVK, newVK, exc, vc_agg, vc_int, vc_bool, vc_str, vc_ptr, vc_sl, vc_fn, boxOf, adInf, List.reverse_cons, List.reverse_nil, List.nil_append, List.cons_append, extK, Bool.and_true, Bool.true_and, Bool.not_true, Bool.not_false, resT, resVs, resV, true_and, and_true, storeK, spl_nil, spl_z, spl_1, spl_2, spl_3, spl_4, spl_5, spl_6, spl_7, spl_8, scal_int, scal_bool, scal_str, scal_nil, implies_true, Bool.and_self, Post_ret, Post_normal, PostS_ret, PostS_normal, retT_true, retT_false, flat_bool, flat_int, flat_str, List.take_length, decide_true, decide_false, Option.some.injEq, Value.bool.injEq, Value.int.injEq, Bool.false_and, Bool.and_false, not_false_eq_true, not_true_eq_false, toIntK, List.length_set, Nat.reduceMul, Bool.not_eq_true, Bool.not_eq_false, List.all_cons, List.all_nil, exps, fillL, buildK, strK, nilcK, fnK, callVT, List.size_toArray, List.append_nil, List.singleton_append, boxOK, newOK, scal_nil, List.isEmpty_nil, List.isEmpty_cons, mkVK, mkOK, mkCells, zeros_0, zeros_1, zeros_2, zeros_3, zeros_4, List.map_cons, List.map_nil, h0, h3, h7, h8, hia, hH, ho, hr, hp, eH]
      refine ⟨by rfl, brT.intro (fun h4 => ?_) (fun h4 => ?_)⟩ <;> simp only [go_nil, go_blk, go_skip, go_ret, go_exit, go_seq, go_block, go_reg, go_r0, go_r, go_d0, go_d, go_cond, go_o, go_g, aft_some, cnd_bool, grd_bool, grd_tup, brT_true, brT_false, brT_not, thr_exit, thr_c, thr_nil, stp, stepK, movK, mv1, ex, exv, exvs, upd_some, upd_none, ini, St.val, binK, binV, ofV, pickK, unK, unV, beqK, beq_true, beq_false, if_true, if_false, List.getElem?_cons_zero, List.getElem?_cons_succ, ↓reduceIte, Nat.reduceEqDiff, reduceCtorEq, loadK, adr, deref, Ad.fv, Ad.live, fadrK, List.length_cons, List.length_nil, List.drop_zero, List.drop_succ_cons, List.take_succ_cons, List.take_zero, Nat.reduceAdd, Nat.reduceLeDiff, Nat.zero_add, Nat.add_zero, aeqK, agEq, scEq, boxVK, newVK, exc, vc_agg, vc_int, vc_bool, vc_str, vc_ptr, vc_sl, vc_fn, boxOf, adInf, List.reverse_cons, List.reverse_nil, List.nil_append, List.cons_append, extK, Bool.and_true, Bool.true_and, Bool.not_true, Bool.not_false, resT, resVs, resV, true_and, and_true, storeK, spl_nil, spl_z, spl_1, spl_2, spl_3, spl_4, spl_5, spl_6, spl_7, spl_8, scal_int, scal_bool, scal_str, scal_nil, implies_true, Bool.and_self, Post_ret, Post_normal, PostS_ret, PostS_normal, retT_true, retT_false, flat_bool, flat_int, flat_str, List.take_length, decide_true, decide_false, Option.some.injEq, Value.bool.injEq, Value.int.injEq, Bool.false_and, Bool.and_false, not_false_eq_true, not_true_eq_false, toIntK, List.length_set, Nat.reduceMul, Bool.not_eq_true, Bool.not_eq_false, List.all_cons, List.all_nil, exps, fillL, buildK, strK, nilcK, fnK, callVT, List.size_toArray, List.append_nil, List.singleton_append, boxOK, newOK, scal_nil, List.isEmpty_nil, List.isEmpty_cons, mkVK, mkOK, mkCells, zeros_0, zeros_1, zeros_2, zeros_3, zeros_4, List.map_cons, List.map_nil, h0, h3, h7, h8, wrap64 ((i : Int) + 1) (by omega) (by omega)]
      · have : l[i] = h := by
          simp at h4
          exact Prod.ext h4.1.symm h4.2.symm
        exact (idxI_at h2 hn this).symm
      · refine ⟨h2, by simp, notin_succ h2 hn ?_⟩
        rintro rfl
        simp at h4
    · have h2 : ¬ i < l.length := by simpa using h1
      rw [List.take_of_length_le (by omega)] at hn
      exact ⟨hH, hn⟩
  · rintro s ⟨hH, hn⟩
    simp only [go_nil, go_blk, go_skip, go_ret, go_exit, go_seq, go_block, go_reg, go_r0, go_r, go_d0, go_d, go_cond, go_o, go_g, aft_some, cnd_bool, grd_bool, grd_tup, brT_true, brT_false, brT_not, thr_exit, thr_c, thr_nil, stp, stepK, movK, mv1, ex, exv, exvs, upd_some, upd_none, ini, St.val, binK, binV, ofV, pickK, unK, unV, beqK, beq_true, beq_false, if_true, if_false, List.getElem?_cons_zero, List.getElem?_cons_succ, ↓reduceIte, Nat.reduceEqDiff, reduceCtorEq, loadK, adr, deref, Ad.fv, Ad.live, fadrK, List.length_cons, List.length_nil, List.drop_zero, List.drop_succ_cons, List.take_succ_cons, List.take_zero, Nat.reduceAdd, Nat.reduceLeDiff, Nat.zero_add, Nat.add_zero, aeqK, agEq, scEq, boxVK, newVK, exc, vc_agg, vc_int, vc_bool, vc_str, vc_ptr, vc_sl, vc_fn, boxOf, adInf, List.reverse_cons, List.reverse_nil, List.nil_append, List.cons_append, extK, Bool.and_true, Bool.true_and, Bool.not_true, Bool.not_false, resT, resVs, resV, true_and, and_true, storeK, spl_nil, spl_z, spl_1, spl_2, spl_3, spl_4, spl_5, spl_6, spl_7, spl_8, scal_int, scal_bool, scal_str, scal_nil, implies_true, Bool.and_self, Post_ret, Post_normal, PostS_ret, PostS_normal, retT_true, retT_false, flat_bool, flat_int, flat_str, List.take_length, decide_true, decide_false, Option.some.injEq, Value.bool.injEq, Value.int.injEq, Bool.false_and, Bool.and_false, not_false_eq_true, not_true_eq_false, toIntK, List.length_set, Nat.reduceMul, Bool.not_eq_true, Bool.not_eq_false, List.all_cons, List.all_nil, exps, fillL, buildK, strK, nilcK, fnK, callVT, List.size_toArray, List.append_nil, List.singleton_append, boxOK, newOK, scal_nil, List.isEmpty_nil, List.isEmpty_cons, mkVK, mkOK, mkCells, zeros_0, zeros_1, zeros_2, zeros_3, zeros_4, List.map_cons, List.map_nil, hH, hn]
    simp [idxI, hn]

theorem f59 {H : Hp} {v : Value} {l : List Hop} {h : Hop} (hl : Sl (En eH) 2 H v l) : Scal EE 59 [v, vH h] H (.bool (decide (h ∈ l))) := by
  refine scal_ok rfl rfl k59 (by simp [c59]) rfl fun m hw => ?_
  have c84' := fun {m draw s d ts Q} => callT_at (m := m) (draw := draw) (s := s) (d := d) (ts := ts) (Q := Q) (f84 (h := h) hl)
  unfold vH at c84'
  simp only [go_nil, go_blk, go_skip, go_ret, go_exit, go_seq, go_block, go_reg, go_r0, go_r, go_d0, go_d, go_cond, go_o, go_g, aft_some, cnd_bool, grd_bool, grd_tup, brT_true, brT_false, brT_not, thr_exit, thr_c, thr_nil, stp, stepK, movK, mv1, ex, exv, exvs, upd_some, upd_none, ini, St.val, binK, binV, ofV, pickK, unK, unV, beqK, beq_true, beq_false, if_true, if_false, List.getElem?_cons_zero, List.getElem?_cons_succ, ↓reduceIte, Nat.reduceEqDiff, reduceCtorEq, loadK, adr, deref, Ad.fv, Ad.live, fadrK, List.length_cons, List.length_nil, List.drop_zero, List.drop_succ_cons, List.take_succ_cons, List.take_zero, Nat.reduceAdd, Nat.reduceLeDiff, Nat.zero_add, Nat.add_zero, aeqK, agEq, scEq, boxVK, newVK, exc, vc_agg, vc_int, vc_bool, vc_str, vc_ptr, vc_sl, vc_fn, boxOf, adInf, List.reverse_cons, List.reverse_nil, List.nil_append, List.cons_append, extK, Bool.and_true, Bool.true_and, Bool.not_true, Bool.not_false, resT, resVs, resV, true_and, and_true, storeK, spl_nil, spl_z, spl_1, spl_2, spl_3, spl_4, spl_5, spl_6, spl_7, spl_8, scal_int, scal_bool, scal_str, scal_nil, implies_true, Bool.and_self, Post_ret, Post_normal, PostS_ret, PostS_normal, retT_true, retT_false, flat_bool, flat_int, flat_str, List.take_length, decide_true, decide_false, Option.some.injEq, Value.bool.injEq, Value.int.injEq, Bool.false_and, Bool.and_false, not_false_eq_true, not_true_eq_false, toIntK, List.length_set, Nat.reduceMul, Bool.not_eq_true, Bool.not_eq_false, List.all_cons, List.all_nil, exps, fillL, buildK, strK, nilcK, fnK, callVT, List.size_toArray, List.append_nil, List.singleton_append, boxOK, newOK, scal_nil, List.isEmpty_nil, List.isEmpty_cons, mkVK, mkOK, mkCells, zeros_0, zeros_1, zeros_2, zeros_3, zeros_4, List.map_cons, List.map_nil, c59, vH, c84', hw]
  rw [Bool.eq_iff_iff]
  simp [idxI_nonneg]
end Go.Proofs.Ytdplmjlbkaipiaa.Ev

/- The types of the laws' parameters. -/
namespace Go.Proofs.Ytdplmjlbkaipiaa.Ev
set_option linter.all false
open Go
set_option maxRecDepth 100000
end Go.Proofs.Ytdplmjlbkaipiaa.Ev

/- Code of the program's functions, as the small machine has it: written by mkcode.py. -/
namespace Go.Proofs.Ytdplmjlbkaipiaa.Ev
set_option linter.all false
open Go
def c8 : CF := ⟨204, (.seq (.reg false [⟨(some 2), .none, (.mov (.c (.bool false))), 0, []⟩]) (.seq (.seq (.reg false [⟨(some 15), .none, (.mov (.t 0)), 0, []⟩, ⟨(some 16), .none, (.call 33 [(.t 15)]), 1, []⟩]) (.cond (.t 16) (.seq (.reg false [⟨(some 2), .none, (.mov (.c (.bool true))), 0, []⟩]) .ret) .skip)) (.seq (.reg false [⟨(some 18), .none, (.mov (.t 0)), 0, []⟩, ⟨(some 19), .none, (.call 34 [(.t 18)]), 1, []⟩, ⟨(some 17), .none, (.mov (.t 19)), 2, []⟩, ⟨(some 20), .none, (.ext (.t 17) 0), 3, []⟩, ⟨(some 21), .none, (.ext (.t 17) 1), 4, []⟩, ⟨(some 22), .none, (.ext (.t 17) 2), 5, []⟩, ⟨(some 3), .none, (.mov (.t 20)), 6, []⟩, ⟨(some 4), .none, (.mov (.t 21)), 7, []⟩, ⟨(some 5), .none, (.mov (.t 22)), 8, []⟩]) (.seq (.reg false [⟨(some 23), .none, (.mov (.t 3)), 0, []⟩, ⟨(some 24), .none, (.mov (.t 4)), 1, []⟩, ⟨(some 25), .none, (.mov (.t 5)), 2, []⟩, ⟨(some 26), .none, (.call 25 [(.t 23), (.t 24), (.t 25)]), 3, []⟩, ⟨(some 6), .none, (.mov (.t 26)), 4, []⟩]) (.seq (.reg false [⟨(some 27), .none, (.mov (.t 3)), 0, []⟩, ⟨(some 28), .none, (.mov (.t 4)), 1, []⟩, ⟨(some 29), .none, (.mov (.t 5)), 2, []⟩, ⟨(some 30), .none, (.call 30 [(.t 27), (.t 28), (.t 29)]), 3, []⟩, ⟨(some 7), .none, (.mov (.t 30)), 4, []⟩]) (.seq (.reg false [⟨(some 31), .none, (.mov (.t 3)), 0, []⟩, ⟨(some 32), .none, (.mov (.t 4)), 1, []⟩, ⟨(some 33), .none, (.call 32 [(.t 31), (.t 32)]), 2, []⟩, ⟨(some 8), .none, (.mov (.t 33)), 3, []⟩]) (.seq (.reg false [⟨(some 34), .none, (.mkO 8 1 [(.int .i64 0)] [(0, (.c (.int .i64 0))), (1, (.c (.int .i64 1))), (2, (.c (.int .i64 2))), (3, (.c (.int .i64 3))), (4, (.c (.int .i64 4))), (5, (.c (.int .i64 5))), (6, (.c (.int .i64 6))), (7, (.c (.int .i64 7)))]), 0, []⟩, ⟨(some 9), .none, (.mov (.t 34)), 1, []⟩]) (.seq (.seq (.reg false [⟨(some 35), .none, (.mov (.t 6)), 0, []⟩, ⟨(some 36), .none, (.mov (.t 3)), 1, []⟩, ⟨(some 37), .none, (.mov (.t 4)), 2, []⟩, ⟨(some 38), .none, (.mov (.t 5)), 3, []⟩, ⟨(some 39), .none, (.call 24 [(.t 36), (.t 37), (.t 38)]), 4, []⟩, ⟨(some 40), .none, (.call 35 [(.t 35), (.t 39)]), 5, []⟩, ⟨(some 41), .none, (.un .not (.t 40)), 6, []⟩, ⟨(some 42), .none, (.mov (.t 41)), 7, []⟩, ⟨(some 43), (.some (42, false)), (.mov (.t 7)), 8, []⟩, ⟨(some 44), (.some (42, false)), (.mov (.t 3)), 9, []⟩, ⟨(some 45), (.some (42, false)), (.mov (.t 4)), 10, []⟩, ⟨(some 46), (.some (42, false)), (.mov (.t 5)), 11, []⟩, ⟨(some 47), (.some (42, false)), (.call 29 [(.t 44), (.t 45), (.t 46)]), 12, []⟩, ⟨(some 48), (.some (42, false)), (.call 35 [(.t 43), (.t 47)]), 13, []⟩, ⟨(some 49), (.some (42, false)), (.un .not (.t 48)), 14, []⟩, ⟨(some 50), .none, (.pick (.t 42) (.c (.bool true)) (.t 49)), 15, []⟩, ⟨(some 51), .none, (.mov (.t 50)), 16, []⟩, ⟨(some 52), (.some (51, false)), (.mov (.t 8)), 17, []⟩, ⟨(some 53), (.some (51, false)), (.mov (.t 3)), 18, []⟩, ⟨(some 54), (.some (51, false)), (.mov (.t 4)), 19, []⟩, ⟨(some 55), (.some (51, false)), (.call 31 [(.t 53), (.t 54)]), 20, []⟩, ⟨(some 56), (.some (51, false)), (.call 35 [(.t 52), (.t 55)]), 21, []⟩, ⟨(some 57), (.some (51, false)), (.un .not (.t 56)), 22, []⟩, ⟨(some 58), .none, (.pick (.t 51) (.c (.bool true)) (.t 57)), 23, []⟩, ⟨(some 59), .none, (.mov (.t 58)), 24, []⟩, ⟨(some 60), (.some (59, false)), (.mov (.t 6)), 25, []⟩, ⟨(some 61), (.some (59, false)), (.lenS (.t 60)), 26, []⟩, ⟨(some 62), (.some (59, false)), (.bin .gtr (.t 61) (.c (.int .i64 0))), 27, []⟩, ⟨(some 63), (.some (59, false)), (.mov (.t 8)), 28, []⟩, ⟨(some 64), (.some (59, false)), (.mov (.t 5)), 29, []⟩, ⟨(some 65), (.some (59, false)), (.call 36 [(.t 63), (.t 64)]), 30, []⟩, ⟨(some 66), (.some (59, false)), (.beq true (.t 62) (.t 65)), 31, []⟩, ⟨(some 67), .none, (.pick (.t 59) (.c (.bool true)) (.t 66)), 32, []⟩]) (.cond (.t 67) (.seq (.reg false [⟨(some 2), .none, (.mov (.c (.bool false))), 0, []⟩]) .ret) .skip)) (.seq (.seq (.reg false [⟨(some 68), .none, (.mov (.t 6)), 0, []⟩, ⟨(some 69), .none, (.lenS (.t 68)), 1, []⟩, ⟨(some 70), .none, (.bin .eql (.t 69) (.c (.int .i64 0))), 2, []⟩]) (.cond (.t 70) (.seq (.reg false [⟨(some 71), .none, (.mov (.t 7)), 0, []⟩, ⟨(some 72), .none, (.lenS (.t 71)), 1, []⟩, ⟨(some 73), .none, (.bin .eql (.t 72) (.c (.int .i64 0))), 2, []⟩, ⟨(some 2), .none, (.mov (.t 73)), 3, []⟩]) .ret) .skip)) (.seq (.seq (.reg false [⟨(some 74), .none, (.mov (.t 6)), 0, []⟩, ⟨(some 75), .none, (.iadr 1 (.t 74) (.c (.int .i64 0))), 1, []⟩, ⟨(some 76), .none, (.load 1 false (.t 75)), 2, []⟩, ⟨(some 77), .none, (.mov (.t 4)), 3, []⟩, ⟨(some 78), .none, (.bin .neq (.t 76) (.t 77)), 4, []⟩, ⟨(some 79), .none, (.mov (.t 78)), 5, []⟩, ⟨(some 80), (.some (79, false)), (.mov (.t 6)), 6, []⟩, ⟨(some 81), (.some (79, false)), (.mov (.t 6)), 7, []⟩, ⟨(some 82), (.some (79, false)), (.lenS (.t 81)), 8, []⟩, ⟨(some 83), (.some (79, false)), (.bin .sub (.t 82) (.c (.int .i64 1))), 9, []⟩, ⟨(some 84), (.some (79, false)), (.iadr 1 (.t 80) (.t 83)), 10, []⟩, ⟨(some 85), (.some (79, false)), (.load 1 false (.t 84)), 11, []⟩, ⟨(some 86), (.some (79, false)), (.mov (.t 5)), 12, []⟩, ⟨(some 87), (.some (79, false)), (.bin .neq (.t 85) (.t 86)), 13, []⟩, ⟨(some 88), .none, (.pick (.t 79) (.c (.bool true)) (.t 87)), 14, []⟩, ⟨(some 89), .none, (.mov (.t 88)), 15, []⟩, ⟨(some 90), (.some (89, false)), (.mov (.t 3)), 16, []⟩, ⟨(some 91), (.some (89, false)), (.mov (.t 6)), 17, []⟩, ⟨(some 92), (.some (89, false)), (.mov (.t 9)), 18, []⟩, ⟨(some 93), (.some (89, false)), (.call 20 [(.t 90), (.t 91), (.t 92)]), 19, []⟩, ⟨(some 94), (.some (89, false)), (.un .not (.t 93)), 20, []⟩, ⟨(some 95), .none, (.pick (.t 89) (.c (.bool true)) (.t 94)), 21, []⟩, ⟨(some 96), .none, (.mov (.t 95)), 22, []⟩, ⟨(some 97), (.some (96, false)), (.mov (.t 3)), 23, []⟩, ⟨(some 98), (.some (96, false)), (.mov (.t 6)), 24, []⟩, ⟨(some 99), (.some (96, false)), (.mov (.t 9)), 25, []⟩, ⟨(some 100), (.some (96, false)), (.call 22 [(.t 97), (.t 98), (.t 99)]), 26, []⟩, ⟨(some 101), (.some (96, false)), (.un .not (.t 100)), 27, []⟩, ⟨(some 102), .none, (.pick (.t 96) (.c (.bool true)) (.t 101)), 28, []⟩]) (.cond (.t 102) (.seq (.reg false [⟨(some 2), .none, (.mov (.c (.bool false))), 0, []⟩]) .ret) .skip)) (.seq (.seq (.reg false [⟨(some 10), .none, (.mov (.c (.int .i64 0))), 0, []⟩]) (.block 0 (.loop (.seq (.seq (.reg false [⟨(some 103), .none, (.mov (.t 10)), 0, []⟩, ⟨(some 104), .none, (.mov (.t 7)), 1, []⟩, ⟨(some 105), .none, (.lenS (.t 104)), 2, []⟩, ⟨(some 106), .none, (.bin .lss (.t 103) (.t 105)), 3, []⟩]) (.cond (.t 106) .skip (.exit 0))) (.seq (.block 1 (.seq (.reg false [⟨(some 109), .none, (.mov (.t 6)), 0, []⟩, ⟨(some 110), .none, (.mov (.t 7)), 1, []⟩, ⟨(some 111), .none, (.mov (.t 10)), 2, []⟩, ⟨(some 112), .none, (.iadr 1 (.t 110) (.t 111)), 3, []⟩, ⟨(some 113), .none, (.load 1 false (.t 112)), 4, []⟩, ⟨(some 114), .none, (.call 36 [(.t 109), (.t 113)]), 5, []⟩, ⟨(some 115), .none, (.un .not (.t 114)), 6, []⟩, ⟨(some 116), .none, (.mov (.t 115)), 7, []⟩, ⟨(some 117), (.some (116, false)), (.mov (.t 7)), 8, []⟩, ⟨(some 118), (.some (116, false)), (.mov (.t 10)), 9, []⟩, ⟨(some 119), (.some (116, false)), (.iadr 1 (.t 117) (.t 118)), 10, []⟩, ⟨(some 120), (.some (116, false)), (.load 1 false (.t 119)), 11, []⟩, ⟨(some 121), (.some (116, false)), (.mov (.t 4)), 12, []⟩, ⟨(some 122), (.some (116, false)), (.bin .eql (.t 120) (.t 121)), 13, []⟩, ⟨(some 123), .none, (.pick (.t 116) (.c (.bool true)) (.t 122)), 14, []⟩, ⟨(some 124), .none, (.mov (.t 123)), 15, []⟩, ⟨(some 125), (.some (124, false)), (.mov (.t 7)), 16, []⟩, ⟨(some 126), (.some (124, false)), (.mov (.t 10)), 17, []⟩, ⟨(some 127), (.some (124, false)), (.iadr 1 (.t 125) (.t 126)), 18, []⟩, ⟨(some 128), (.some (124, false)), (.load 1 false (.t 127)), 19, []⟩, ⟨(some 129), (.some (124, false)), (.mov (.t 5)), 20, []⟩, ⟨(some 130), (.some (124, false)), (.bin .eql (.t 128) (.t 129)), 21, []⟩, ⟨(some 131), .none, (.pick (.t 124) (.c (.bool true)) (.t 130)), 22, []⟩]) (.cond (.t 131) (.seq (.reg false [⟨(some 2), .none, (.mov (.c (.bool false))), 0, []⟩]) .ret) .skip))) (.reg false [⟨(some 107), .none, (.mov (.t 10)), 0, []⟩, ⟨(some 108), .none, (.bin .add (.t 107) (.c (.int .i64 1))), 1, []⟩, ⟨(some 10), .none, (.mov (.t 108)), 2, []⟩])))))) (.seq (.seq (.reg false [⟨(some 11), .none, (.mov (.c (.int .i64 0))), 0, []⟩]) (.block 2 (.loop (.seq (.seq (.reg false [⟨(some 132), .none, (.mov (.t 11)), 0, []⟩, ⟨(some 133), .none, (.mov (.t 3)), 1, []⟩, ⟨(some 134), .none, (.lenS (.t 133)), 2, []⟩, ⟨(some 135), .none, (.bin .lss (.t 132) (.t 134)), 3, []⟩]) (.cond (.t 135) .skip (.exit 2))) (.seq (.block 3 (.seq (.seq (.reg false [⟨(some 138), .none, (.mov (.t 8)), 0, []⟩, ⟨(some 139), .none, (.mov (.t 3)), 1, []⟩, ⟨(some 140), .none, (.mov (.t 11)), 2, []⟩, ⟨(some 141), .none, (.iadr 2 (.t 139) (.t 140)), 3, []⟩, ⟨(some 142), .none, (.fadr 0 (.t 141)), 4, []⟩, ⟨(some 143), .none, (.load 1 false (.t 142)), 5, []⟩, ⟨(some 144), .none, (.call 36 [(.t 138), (.t 143)]), 6, []⟩, ⟨(some 145), .none, (.mov (.t 144)), 7, []⟩, ⟨(some 146), (.some (145, true)), (.mov (.t 8)), 8, []⟩, ⟨(some 147), (.some (145, true)), (.mov (.t 3)), 9, []⟩, ⟨(some 148), (.some (145, true)), (.mov (.t 11)), 10, []⟩, ⟨(some 149), (.some (145, true)), (.iadr 2 (.t 147) (.t 148)), 11, []⟩, ⟨(some 150), (.some (145, true)), (.fadr 1 (.t 149)), 12, []⟩, ⟨(some 151), (.some (145, true)), (.load 1 false (.t 150)), 13, []⟩, ⟨(some 152), (.some (145, true)), (.call 36 [(.t 146), (.t 151)]), 14, []⟩, ⟨(some 153), (.some (145, true)), (.un .not (.t 152)), 15, []⟩, ⟨(some 154), .none, (.pick (.t 145) (.t 153) (.c (.bool false))), 16, []⟩]) (.cond (.t 154) (.seq (.reg false [⟨(some 2), .none, (.mov (.c (.bool false))), 0, []⟩]) .ret) .skip)) (.seq (.reg false [⟨(some 155), .none, (.mov (.t 3)), 0, []⟩, ⟨(some 156), .none, (.mov (.t 11)), 1, []⟩, ⟨(some 157), .none, (.iadr 2 (.t 155) (.t 156)), 2, []⟩, ⟨(some 158), .none, (.fadr 0 (.t 157)), 3, []⟩, ⟨(some 159), .none, (.load 1 false (.t 158)), 4, []⟩, ⟨(some 160), .none, (.mov (.t 4)), 5, []⟩, ⟨(some 161), .none, (.bin .eql (.t 159) (.t 160)), 6, []⟩, ⟨(some 162), .none, (.mov (.t 161)), 7, []⟩, ⟨(some 163), (.some (162, true)), (.mov (.t 3)), 8, []⟩, ⟨(some 164), (.some (162, true)), (.mov (.t 3)), 9, []⟩, ⟨(some 165), (.some (162, true)), (.mov (.t 11)), 10, []⟩, ⟨(some 166), (.some (162, true)), (.iadr 2 (.t 164) (.t 165)), 11, []⟩, ⟨(some 167), (.some (162, true)), (.fadr 1 (.t 166)), 12, []⟩, ⟨(some 168), (.some (162, true)), (.load 1 false (.t 167)), 13, []⟩, ⟨(some 169), (.some (162, true)), (.mov (.t 5)), 14, []⟩, ⟨(some 170), (.some (162, true)), (.call 25 [(.t 163), (.t 168), (.t 169)]), 15, []⟩, ⟨(some 171), (.some (162, true)), (.lenS (.t 170)), 16, []⟩, ⟨(some 172), (.some (162, true)), (.bin .gtr (.t 171) (.c (.int .i64 0))), 17, []⟩, ⟨(some 173), .none, (.pick (.t 162) (.t 172) (.c (.bool false))), 18, []⟩, ⟨(some 174), .none, (.mov (.t 173)), 19, []⟩, ⟨(some 175), (.some (174, true)), (.mov (.t 3)), 20, []⟩, ⟨(some 176), (.some (174, true)), (.mov (.t 3)), 21, []⟩, ⟨(some 177), (.some (174, true)), (.mov (.t 11)), 22, []⟩, ⟨(some 178), (.some (174, true)), (.iadr 2 (.t 176) (.t 177)), 23, []⟩, ⟨(some 179), (.some (174, true)), (.fadr 1 (.t 178)), 24, []⟩, ⟨(some 180), (.some (174, true)), (.load 1 false (.t 179)), 25, []⟩, ⟨(some 181), (.some (174, true)), (.mov (.t 5)), 26, []⟩, ⟨(some 182), (.some (174, true)), (.call 25 [(.t 175), (.t 180), (.t 181)]), 27, []⟩, ⟨(some 183), (.some (174, true)), (.lenS (.t 182)), 28, []⟩, ⟨(some 184), (.some (174, true)), (.bin .add (.t 183) (.c (.int .i64 1))), 29, []⟩, ⟨(some 185), (.some (174, true)), (.mov (.t 6)), 30, []⟩, ⟨(some 186), (.some (174, true)), (.lenS (.t 185)), 31, []⟩, ⟨(some 187), (.some (174, true)), (.bin .lss (.t 184) (.t 186)), 32, []⟩, ⟨(some 188), .none, (.pick (.t 174) (.t 187) (.c (.bool false))), 33, []⟩]) (.cond (.t 188) (.seq (.reg false [⟨(some 2), .none, (.mov (.c (.bool false))), 0, []⟩]) .ret) .skip)))) (.reg false [⟨(some 136), .none, (.mov (.t 11)), 0, []⟩, ⟨(some 137), .none, (.bin .add (.t 136) (.c (.int .i64 1))), 1, []⟩, ⟨(some 11), .none, (.mov (.t 137)), 2, []⟩])))))) (.seq (.reg false [⟨(some 190), .none, (.mov (.t 0)), 0, []⟩, ⟨(some 191), .none, (.call 37 [(.t 190)]), 1, []⟩, ⟨(some 189), .none, (.mov (.t 191)), 2, []⟩, ⟨(some 192), .none, (.ext (.t 189) 0), 3, []⟩, ⟨(some 193), .none, (.ext (.t 189) 1), 4, []⟩, ⟨(some 194), .none, (.ext (.t 189) 2), 5, []⟩, ⟨(some 12), .none, (.mov (.t 192)), 6, []⟩, ⟨(some 13), .none, (.mov (.t 193)), 7, []⟩, ⟨(some 14), .none, (.mov (.t 194)), 8, []⟩]) (.seq (.reg false [⟨(some 195), .none, (.mov (.t 12)), 0, []⟩, ⟨(some 196), .none, (.mov (.t 13)), 1, []⟩, ⟨(some 197), .none, (.mov (.t 14)), 2, []⟩, ⟨(some 198), .none, (.call 22 [(.t 195), (.t 196), (.t 197)]), 3, []⟩, ⟨(some 199), .none, (.mov (.t 12)), 4, []⟩, ⟨(some 200), .none, (.mov (.t 13)), 5, []⟩, ⟨(some 201), .none, (.mov (.t 14)), 6, []⟩, ⟨(some 202), .none, (.call 20 [(.t 199), (.t 200), (.t 201)]), 7, []⟩, ⟨(some 203), .none, (.beq false (.t 198) (.t 202)), 8, []⟩, ⟨(some 2), .none, (.mov (.t 203)), 9, []⟩]) .ret)))))))))))))), [(.t 2)]⟩
theorem k8 : EE.fns 8 = some c8 := by kernel_rfl
def c33 : CF := ⟨6, (.seq (.reg false [⟨(some 2), .none, (.mov (.c (.bool false))), 0, []⟩]) (.seq (.reg false [⟨(some 3), .none, (.mov (.t 0)), 0, []⟩, ⟨(some 4), .none, (.lenS (.t 3)), 1, []⟩, ⟨(some 5), .none, (.bin .gtr (.t 4) (.c (.int .i64 1048576))), 2, []⟩, ⟨(some 2), .none, (.mov (.t 5)), 3, []⟩]) .ret)), [(.t 2)]⟩
theorem k33 : EE.fns 33 = some c33 := by kernel_rfl
def c34 : CF := ⟨19, (.seq (.reg false [⟨(some 2), .none, (.mov (.c (.slice .none 0 0))), 0, []⟩, ⟨(some 3), .none, (.mov (.c (.int .i64 0))), 1, []⟩, ⟨(some 4), .none, (.mov (.c (.int .i64 0))), 2, []⟩]) (.seq (.reg false [⟨(some 8), .none, (.mov (.t 0)), 0, []⟩, ⟨(some 9), .none, (.call 67 [(.t 8)]), 1, []⟩, ⟨(some 5), .none, (.mov (.t 9)), 2, []⟩]) (.seq (.reg false [⟨(some 10), .none, (.mov (.t 5)), 0, []⟩, ⟨(some 11), .none, (.call 68 [(.t 10), (.c (.int .i64 7))]), 1, []⟩, ⟨(some 6), .none, (.mov (.t 11)), 2, []⟩]) (.seq (.reg false [⟨(some 12), .none, (.mov (.t 5)), 0, []⟩, ⟨(some 13), .none, (.call 68 [(.t 12), (.c (.int .i64 9))]), 1, []⟩, ⟨(some 14), .none, (.bin .sub (.t 13) (.c (.int .i64 1))), 2, []⟩, ⟨(some 7), .none, (.mov (.t 14)), 3, []⟩]) (.seq (.reg false [⟨(some 15), .none, (.mov (.t 5)), 0, []⟩, ⟨(some 16), .none, (.call 69 [(.t 15)]), 1, []⟩, ⟨(some 17), .none, (.mov (.t 6)), 2, []⟩, ⟨(some 18), .none, (.mov (.t 7)), 3, []⟩, ⟨(some 2), .none, (.mov (.t 16)), 4, []⟩, ⟨(some 3), .none, (.mov (.t 17)), 5, []⟩, ⟨(some 4), .none, (.mov (.t 18)), 6, []⟩]) .ret))))), [(.t 2), (.t 3), (.t 4)]⟩
theorem k34 : EE.fns 34 = some c34 := by kernel_rfl
def c35 : CF := ⟨26, (.seq (.reg false [⟨(some 4), .none, (.mov (.c (.bool false))), 0, []⟩]) (.seq (.seq (.reg false [⟨(some 6), .none, (.mov (.t 0)), 0, []⟩, ⟨(some 7), .none, (.lenS (.t 6)), 1, []⟩, ⟨(some 8), .none, (.mov (.t 1)), 2, []⟩, ⟨(some 9), .none, (.lenS (.t 8)), 3, []⟩, ⟨(some 10), .none, (.bin .neq (.t 7) (.t 9)), 4, []⟩]) (.cond (.t 10) (.seq (.reg false [⟨(some 4), .none, (.mov (.c (.bool false))), 0, []⟩]) .ret) .skip)) (.seq (.seq (.reg false [⟨(some 5), .none, (.mov (.c (.int .i64 0))), 0, []⟩]) (.block 0 (.loop (.seq (.seq (.reg false [⟨(some 11), .none, (.mov (.t 5)), 0, []⟩, ⟨(some 12), .none, (.mov (.t 0)), 1, []⟩, ⟨(some 13), .none, (.lenS (.t 12)), 2, []⟩, ⟨(some 14), .none, (.bin .lss (.t 11) (.t 13)), 3, []⟩]) (.cond (.t 14) .skip (.exit 0))) (.seq (.block 1 (.seq (.reg true [⟨(some 17), .none, (.mov (.t 0)), 0, []⟩, ⟨(some 18), .none, (.mov (.t 5)), 1, []⟩, ⟨(some 19), .none, (.iadr 1 (.t 17) (.t 18)), 2, [0, 1]⟩, ⟨(some 20), .none, (.load 1 false (.t 19)), 3, [2, 0, 1]⟩, ⟨(some 21), .none, (.mov (.t 1)), 4, []⟩, ⟨(some 22), .none, (.mov (.t 5)), 5, []⟩, ⟨(some 23), .none, (.iadr 1 (.t 21) (.t 22)), 6, [4, 5]⟩, ⟨(some 24), .none, (.load 1 false (.t 23)), 7, [6, 4, 5]⟩, ⟨(some 25), .none, (.bin .neq (.t 20) (.t 24)), 8, [3, 2, 0, 1, 7, 6, 4, 5]⟩]) (.cond (.t 25) (.seq (.reg false [⟨(some 4), .none, (.mov (.c (.bool false))), 0, []⟩]) .ret) .skip))) (.reg false [⟨(some 15), .none, (.mov (.t 5)), 0, []⟩, ⟨(some 16), .none, (.bin .add (.t 15) (.c (.int .i64 1))), 1, []⟩, ⟨(some 5), .none, (.mov (.t 16)), 2, []⟩])))))) (.seq (.reg false [⟨(some 4), .none, (.mov (.c (.bool true))), 0, []⟩]) .ret)))), [(.t 4)]⟩
theorem k35 : EE.fns 35 = some c35 := by kernel_rfl
def c36 : CF := ⟨18, (.seq (.reg false [⟨(some 4), .none, (.mov (.c (.bool false))), 0, []⟩]) (.seq (.seq (.reg false [⟨(some 5), .none, (.mov (.c (.int .i64 0))), 0, []⟩]) (.block 0 (.loop (.seq (.seq (.reg false [⟨(some 6), .none, (.mov (.t 5)), 0, []⟩, ⟨(some 7), .none, (.mov (.t 0)), 1, []⟩, ⟨(some 8), .none, (.lenS (.t 7)), 2, []⟩, ⟨(some 9), .none, (.bin .lss (.t 6) (.t 8)), 3, []⟩]) (.cond (.t 9) .skip (.exit 0))) (.seq (.block 1 (.seq (.reg false [⟨(some 12), .none, (.mov (.t 0)), 0, []⟩, ⟨(some 13), .none, (.mov (.t 5)), 1, []⟩, ⟨(some 14), .none, (.iadr 1 (.t 12) (.t 13)), 2, []⟩, ⟨(some 15), .none, (.load 1 false (.t 14)), 3, []⟩, ⟨(some 16), .none, (.mov (.t 1)), 4, []⟩, ⟨(some 17), .none, (.bin .eql (.t 15) (.t 16)), 5, []⟩]) (.cond (.t 17) (.seq (.reg false [⟨(some 4), .none, (.mov (.c (.bool true))), 0, []⟩]) .ret) .skip))) (.reg false [⟨(some 10), .none, (.mov (.t 5)), 0, []⟩, ⟨(some 11), .none, (.bin .add (.t 10) (.c (.int .i64 1))), 1, []⟩, ⟨(some 5), .none, (.mov (.t 11)), 2, []⟩])))))) (.seq (.reg false [⟨(some 4), .none, (.mov (.c (.bool false))), 0, []⟩]) .ret))), [(.t 4)]⟩
theorem k36 : EE.fns 36 = some c36 := by kernel_rfl
def c37 : CF := ⟨42, (.seq (.reg false [⟨(some 2), .none, (.mov (.c (.slice .none 0 0))), 0, []⟩, ⟨(some 3), .none, (.mov (.c (.slice .none 0 0))), 1, []⟩, ⟨(some 4), .none, (.mov (.c (.slice .none 0 0))), 2, []⟩]) (.seq (.reg false [⟨(some 10), .none, (.mov (.t 0)), 0, []⟩, ⟨(some 11), .none, (.call 67 [(.t 10)]), 1, []⟩, ⟨(some 5), .none, (.mov (.t 11)), 2, []⟩]) (.seq (.reg false [⟨(some 12), .none, (.mov (.t 5)), 0, []⟩, ⟨(some 13), .none, (.call 69 [(.t 12)]), 1, []⟩, ⟨(some 6), .none, (.mov (.t 13)), 2, []⟩]) (.seq (.reg false [⟨(some 14), .none, (.mov (.t 6)), 0, []⟩, ⟨(some 15), .none, (.mov (.t 5)), 1, []⟩, ⟨(some 16), .none, (.call 68 [(.t 15), (.c (.int .i64 6))]), 2, []⟩, ⟨(some 17), .none, (.mov (.t 5)), 3, []⟩, ⟨(some 18), .none, (.call 68 [(.t 17), (.c (.int .i64 6))]), 4, []⟩, ⟨(some 19), .none, (.call 24 [(.t 14), (.t 16), (.t 18)]), 5, []⟩, ⟨(some 7), .none, (.mov (.t 19)), 6, []⟩]) (.seq (.seq (.reg false [⟨(some 20), .none, (.mov (.t 5)), 0, []⟩, ⟨(some 21), .none, (.call 70 [(.t 20), (.c (.int .i64 4))]), 1, []⟩]) (.cond (.t 21) (.reg false [⟨(some 22), .none, (.mov (.t 7)), 0, []⟩, ⟨(some 23), .none, (.mov (.t 5)), 1, []⟩, ⟨(some 24), .none, (.call 68 [(.t 23), (.c (.int .i64 8))]), 2, []⟩, ⟨(some 25), .none, (.mkV 1 1 [(.int .i64 0)] [(0, (.t 24))]), 3, []⟩, ⟨(some 26), .none, (.app 1 8 (.t 22) (.t 25)), 4, []⟩, ⟨(some 7), .none, (.mov (.t 26)), 5, []⟩]) .skip)) (.seq (.reg false [⟨(some 27), .none, (.mkO 0 1 [(.int .i64 0)] []), 0, []⟩, ⟨(some 8), .none, (.mov (.t 27)), 1, []⟩]) (.seq (.seq (.reg false [⟨(some 9), .none, (.mov (.c (.int .i64 0))), 0, []⟩]) (.block 0 (.loop (.seq (.seq (.reg false [⟨(some 28), .none, (.mov (.t 9)), 0, []⟩, ⟨(some 29), .none, (.bin .lss (.t 28) (.c (.int .i64 6))), 1, []⟩]) (.cond (.t 29) .skip (.exit 0))) (.seq (.block 1 (.seq (.reg false [⟨(some 32), .none, (.mov (.t 5)), 0, []⟩, ⟨(some 33), .none, (.call 70 [(.t 32), (.c (.int .i64 4))]), 1, []⟩, ⟨(some 34), .none, (.un .not (.t 33)), 2, []⟩]) (.cond (.t 34) (.reg false [⟨(some 35), .none, (.mov (.t 8)), 0, []⟩, ⟨(some 36), .none, (.mov (.t 9)), 1, []⟩, ⟨(some 37), .none, (.mkV 1 1 [(.int .i64 0)] [(0, (.t 36))]), 2, []⟩, ⟨(some 38), .none, (.app 1 8 (.t 35) (.t 37)), 3, []⟩, ⟨(some 8), .none, (.mov (.t 38)), 4, []⟩]) .skip))) (.reg false [⟨(some 30), .none, (.mov (.t 9)), 0, []⟩, ⟨(some 31), .none, (.bin .add (.t 30) (.c (.int .i64 1))), 1, []⟩, ⟨(some 9), .none, (.mov (.t 31)), 2, []⟩])))))) (.seq (.reg false [⟨(some 39), .none, (.mov (.t 6)), 0, []⟩, ⟨(some 40), .none, (.mov (.t 7)), 1, []⟩, ⟨(some 41), .none, (.mov (.t 8)), 2, []⟩, ⟨(some 2), .none, (.mov (.t 39)), 3, []⟩, ⟨(some 3), .none, (.mov (.t 40)), 4, []⟩, ⟨(some 4), .none, (.mov (.t 41)), 5, []⟩]) .ret)))))))), [(.t 2), (.t 3), (.t 4)]⟩
theorem k37 : EE.fns 37 = some c37 := by kernel_rfl
def c67 : CF := ⟨32, (.seq (.reg false [⟨(some 2), .none, (.mov (.c (.pointer .none))), 0, []⟩]) (.seq (.reg false [⟨(some 5), .none, (.mov (.t 0)), 0, []⟩, ⟨(some 6), .none, (.lenS (.t 5)), 1, []⟩, ⟨(some 7), .none, (.bin .add (.c (.int .i64 10101)) (.t 6)), 2, []⟩, ⟨(some 3), .none, (.mov (.t 7)), 3, []⟩]) (.seq (.seq (.reg false [⟨(some 4), .none, (.mov (.c (.int .i64 0))), 0, []⟩]) (.block 0 (.loop (.seq (.seq (.reg false [⟨(some 8), .none, (.mov (.t 4)), 0, []⟩, ⟨(some 9), .none, (.mov (.t 0)), 1, []⟩, ⟨(some 10), .none, (.lenS (.t 9)), 2, []⟩, ⟨(some 11), .none, (.bin .lss (.t 8) (.t 10)), 3, []⟩, ⟨(some 12), .none, (.mov (.t 11)), 4, []⟩, ⟨(some 13), (.some (12, true)), (.mov (.t 4)), 5, []⟩, ⟨(some 14), (.some (12, true)), (.bin .lss (.t 13) (.c (.int .i64 4000))), 6, []⟩, ⟨(some 15), .none, (.pick (.t 12) (.t 14) (.c (.bool false))), 7, []⟩]) (.cond (.t 15) .skip (.exit 0))) (.seq (.block 1 (.reg false [⟨(some 18), .none, (.mov (.t 3)), 0, []⟩, ⟨(some 19), .none, (.bin .mul (.t 18) (.c (.int .i64 131))), 1, []⟩, ⟨(some 20), .none, (.mov (.t 0)), 2, []⟩, ⟨(some 21), .none, (.mov (.t 4)), 3, []⟩, ⟨(some 22), .none, (.iadr 1 (.t 20) (.t 21)), 4, []⟩, ⟨(some 23), .none, (.load 1 false (.t 22)), 5, []⟩, ⟨(some 24), .none, (.toInt .i64 (.t 23)), 6, []⟩, ⟨(some 25), .none, (.bin .add (.t 19) (.t 24)), 7, []⟩, ⟨(some 26), .none, (.bin .add (.t 25) (.c (.int .i64 7))), 8, []⟩, ⟨(some 27), .none, (.bin .and (.t 26) (.c (.int .i64 1073741823))), 9, []⟩, ⟨(some 3), .none, (.mov (.t 27)), 10, []⟩])) (.reg false [⟨(some 16), .none, (.mov (.t 4)), 0, []⟩, ⟨(some 17), .none, (.bin .add (.t 16) (.c (.int .i64 1))), 1, []⟩, ⟨(some 4), .none, (.mov (.t 17)), 2, []⟩])))))) (.seq (.reg false [⟨(some 28), .none, (.mov (.t 0)), 0, []⟩, ⟨(some 29), .none, (.mov (.t 3)), 1, []⟩, ⟨(some 30), .none, (.build [(.slice .none 0 0), (.int .i64 0), (.int .i64 0)] [(0, (1, (.t 28))), (2, (1, (.t 29)))]), 2, []⟩, ⟨(some 31), .none, (.boxO (.t 30)), 3, []⟩, ⟨(some 2), .none, (.mov (.t 31)), 4, []⟩]) .ret)))), [(.t 2)]⟩
theorem k67 : EE.fns 67 = some c67 := by kernel_rfl
def c68 : CF := ⟨37, (.seq (.reg false [⟨(some 4), .none, (.mov (.c (.int .i64 0))), 0, []⟩]) (.seq (.seq (.reg false [⟨(some 9), .none, (.mov (.t 1)), 0, []⟩, ⟨(some 10), .none, (.bin .leq (.t 9) (.c (.int .i64 0))), 1, []⟩]) (.cond (.t 10) (.seq (.reg false [⟨(some 4), .none, (.mov (.c (.int .i64 0))), 0, []⟩]) .ret) .skip)) (.seq (.seq (.reg false [⟨(some 11), .none, (.mov (.t 1)), 0, []⟩, ⟨(some 12), .none, (.bin .leq (.t 11) (.c (.int .i64 256))), 1, []⟩]) (.cond (.t 12) (.seq (.reg false [⟨(some 13), .none, (.mov (.t 0)), 0, []⟩, ⟨(some 14), .none, (.call 89 [(.t 13)]), 1, []⟩, ⟨(some 15), .none, (.mov (.t 1)), 2, []⟩, ⟨(some 16), .none, (.bin .rem (.t 14) (.t 15)), 3, []⟩, ⟨(some 4), .none, (.mov (.t 16)), 4, []⟩]) .ret) .skip)) (.seq (.reg false [⟨(some 17), .none, (.mov (.t 0)), 0, []⟩, ⟨(some 18), .none, (.call 89 [(.t 17)]), 1, []⟩, ⟨(some 5), .none, (.mov (.t 18)), 2, []⟩]) (.seq (.reg false [⟨(some 19), .none, (.mov (.t 0)), 0, []⟩, ⟨(some 20), .none, (.call 89 [(.t 19)]), 1, []⟩, ⟨(some 6), .none, (.mov (.t 20)), 2, []⟩]) (.seq (.reg false [⟨(some 21), .none, (.mov (.t 0)), 0, []⟩, ⟨(some 22), .none, (.call 89 [(.t 21)]), 1, []⟩, ⟨(some 7), .none, (.mov (.t 22)), 2, []⟩]) (.seq (.reg false [⟨(some 23), .none, (.mov (.t 0)), 0, []⟩, ⟨(some 24), .none, (.call 89 [(.t 23)]), 1, []⟩, ⟨(some 8), .none, (.mov (.t 24)), 2, []⟩]) (.seq (.reg false [⟨(some 25), .none, (.mov (.t 5)), 0, []⟩, ⟨(some 26), .none, (.bin .mul (.t 25) (.c (.int .i64 16777216))), 1, []⟩, ⟨(some 27), .none, (.mov (.t 6)), 2, []⟩, ⟨(some 28), .none, (.bin .mul (.t 27) (.c (.int .i64 65536))), 3, []⟩, ⟨(some 29), .none, (.bin .add (.t 26) (.t 28)), 4, []⟩, ⟨(some 30), .none, (.mov (.t 7)), 5, []⟩, ⟨(some 31), .none, (.bin .mul (.t 30) (.c (.int .i64 256))), 6, []⟩, ⟨(some 32), .none, (.bin .add (.t 29) (.t 31)), 7, []⟩, ⟨(some 33), .none, (.mov (.t 8)), 8, []⟩, ⟨(some 34), .none, (.bin .add (.t 32) (.t 33)), 9, []⟩, ⟨(some 35), .none, (.mov (.t 1)), 10, []⟩, ⟨(some 36), .none, (.bin .rem (.t 34) (.t 35)), 11, []⟩, ⟨(some 4), .none, (.mov (.t 36)), 12, []⟩]) .ret)))))))), [(.t 4)]⟩
theorem k68 : EE.fns 68 = some c68 := by kernel_rfl
def c69 : CF := ⟨44, (.seq (.reg false [⟨(some 2), .none, (.mov (.c (.slice .none 0 0))), 0, []⟩]) (.seq (.reg false [⟨(some 6), .none, (.mkO 0 2 [(.int .i64 0), (.int .i64 0)] []), 0, []⟩, ⟨(some 3), .none, (.mov (.t 6)), 1, []⟩]) (.seq (.seq (.reg false [⟨(some 7), .none, (.mov (.t 0)), 0, []⟩, ⟨(some 8), .none, (.call 68 [(.t 7), (.c (.int .i64 14))]), 1, []⟩, ⟨(some 4), .none, (.mov (.t 8)), 2, []⟩]) (.block 0 (.loop (.seq (.seq (.reg false [⟨(some 9), .none, (.mov (.t 4)), 0, []⟩, ⟨(some 10), .none, (.bin .gtr (.t 9) (.c (.int .i64 0))), 1, []⟩]) (.cond (.t 10) .skip (.exit 0))) (.seq (.block 1 (.seq (.reg false [⟨(some 13), .none, (.mov (.t 0)), 0, []⟩, ⟨(some 14), .none, (.call 68 [(.t 13), (.c (.int .i64 6))]), 1, []⟩, ⟨(some 15), .none, (.mov (.t 0)), 2, []⟩, ⟨(some 16), .none, (.call 68 [(.t 15), (.c (.int .i64 6))]), 3, []⟩, ⟨(some 17), .none, (.build [(.int .i64 0), (.int .i64 0)] [(0, (1, (.t 14))), (1, (1, (.t 16)))]), 4, []⟩, ⟨(some 5), .none, (.newV [(.int .i64 0), (.int .i64 0)]), 5, []⟩, ⟨.none, .none, (.store 2 (.t 5) (.t 17)), 6, []⟩]) (.seq (.reg false [⟨(some 18), .none, (.fadr 0 (.t 5)), 0, []⟩, ⟨(some 19), .none, (.load 1 false (.t 18)), 1, []⟩, ⟨(some 20), .none, (.fadr 1 (.t 5)), 2, []⟩, ⟨(some 21), .none, (.load 1 false (.t 20)), 3, []⟩, ⟨(some 22), .none, (.bin .neq (.t 19) (.t 21)), 4, []⟩, ⟨(some 23), .none, (.mov (.t 22)), 5, []⟩, ⟨(some 24), (.some (23, true)), (.mov (.t 3)), 6, []⟩, ⟨(some 25), (.some (23, true)), (.load 2 true (.t 5)), 7, []⟩, ⟨(some 26), (.some (23, true)), (.call 56 [(.t 24), (.t 25)]), 8, []⟩, ⟨(some 27), (.some (23, true)), (.un .not (.t 26)), 9, []⟩, ⟨(some 28), .none, (.pick (.t 23) (.t 27) (.c (.bool false))), 10, []⟩]) (.cond (.t 28) (.reg false [⟨(some 29), .none, (.mov (.t 3)), 0, []⟩, ⟨(some 30), .none, (.load 2 true (.t 5)), 1, []⟩, ⟨(some 31), .none, (.mkV 1 2 [(.int .i64 0), (.int .i64 0)] [(0, (.t 30))]), 2, []⟩, ⟨(some 32), .none, (.app 2 16 (.t 29) (.t 31)), 3, []⟩, ⟨(some 3), .none, (.mov (.t 32)), 4, []⟩]) .skip)))) (.reg false [⟨(some 11), .none, (.mov (.t 4)), 0, []⟩, ⟨(some 12), .none, (.bin .sub (.t 11) (.c (.int .i64 1))), 1, []⟩, ⟨(some 4), .none, (.mov (.t 12)), 2, []⟩])))))) (.seq (.seq (.reg false [⟨(some 33), .none, (.mov (.t 0)), 0, []⟩, ⟨(some 34), .none, (.call 70 [(.t 33), (.c (.int .i64 12))]), 1, []⟩]) (.cond (.t 34) (.reg false [⟨(some 35), .none, (.mov (.t 3)), 0, []⟩, ⟨(some 36), .none, (.mov (.t 0)), 1, []⟩, ⟨(some 37), .none, (.call 68 [(.t 36), (.c (.int .i64 9))]), 2, []⟩, ⟨(some 38), .none, (.mov (.t 0)), 3, []⟩, ⟨(some 39), .none, (.call 68 [(.t 38), (.c (.int .i64 9))]), 4, []⟩, ⟨(some 40), .none, (.build [(.int .i64 0), (.int .i64 0)] [(0, (1, (.t 37))), (1, (1, (.t 39)))]), 5, []⟩, ⟨(some 41), .none, (.mkV 1 2 [(.int .i64 0), (.int .i64 0)] [(0, (.t 40))]), 6, []⟩, ⟨(some 42), .none, (.app 2 16 (.t 35) (.t 41)), 7, []⟩, ⟨(some 3), .none, (.mov (.t 42)), 8, []⟩]) .skip)) (.seq (.reg false [⟨(some 43), .none, (.mov (.t 3)), 0, []⟩, ⟨(some 2), .none, (.mov (.t 43)), 1, []⟩]) .ret))))), [(.t 2)]⟩
theorem k69 : EE.fns 69 = some c69 := by kernel_rfl
def c70 : CF := ⟨9, (.seq (.reg false [⟨(some 4), .none, (.mov (.c (.bool false))), 0, []⟩]) (.seq (.reg false [⟨(some 5), .none, (.mov (.t 0)), 0, []⟩, ⟨(some 6), .none, (.mov (.t 1)), 1, []⟩, ⟨(some 7), .none, (.call 68 [(.t 5), (.t 6)]), 2, []⟩, ⟨(some 8), .none, (.bin .eql (.t 7) (.c (.int .i64 0))), 3, []⟩, ⟨(some 4), .none, (.mov (.t 8)), 4, []⟩]) .ret)), [(.t 4)]⟩
theorem k70 : EE.fns 70 = some c70 := by kernel_rfl
def c89 : CF := ⟨58, (.seq (.reg false [⟨(some 2), .none, (.mov (.c (.int .i64 0))), 0, []⟩]) (.seq (.reg false [⟨(some 4), .none, (.mov (.t 0)), 0, []⟩, ⟨(some 5), .none, (.mov (.t 0)), 1, []⟩, ⟨(some 6), .none, (.nilc (.t 5)), 2, []⟩, ⟨(some 7), .none, (.fadr 2 (.t 6)), 3, []⟩, ⟨(some 8), .none, (.load 1 false (.t 7)), 4, []⟩, ⟨(some 9), .none, (.bin .mul (.t 8) (.c (.int .i64 6364136223846793005))), 5, []⟩, ⟨(some 10), .none, (.bin .add (.t 9) (.c (.int .i64 1442695040888963407))), 6, []⟩, ⟨(some 11), .none, (.nilc (.t 4)), 7, []⟩, ⟨(some 12), .none, (.fadr 2 (.t 11)), 8, []⟩, ⟨.none, .none, (.store 1 (.t 12) (.t 10)), 9, []⟩]) (.seq (.reg true [⟨(some 13), .none, (.mov (.t 0)), 0, []⟩, ⟨(some 14), .none, (.nilc (.t 13)), 1, [0]⟩, ⟨(some 15), .none, (.fadr 2 (.t 14)), 2, [1, 0]⟩, ⟨(some 16), .none, (.load 1 false (.t 15)), 3, [2, 1, 0]⟩, ⟨(some 17), .none, (.bin .shr (.t 16) (.c (.int .u64 33))), 4, [3, 2, 1, 0]⟩, ⟨(some 18), .none, (.mov (.t 0)), 5, []⟩, ⟨(some 19), .none, (.nilc (.t 18)), 6, [5]⟩, ⟨(some 20), .none, (.fadr 2 (.t 19)), 7, [6, 5]⟩, ⟨(some 21), .none, (.load 1 false (.t 20)), 8, [7, 6, 5]⟩, ⟨(some 22), .none, (.bin .shr (.t 21) (.c (.int .u64 45))), 9, [8, 7, 6, 5]⟩, ⟨(some 23), .none, (.bin .xor (.t 17) (.t 22)), 10, [4, 3, 2, 1, 0, 9, 8, 7, 6, 5]⟩, ⟨(some 24), .none, (.bin .and (.t 23) (.c (.int .i64 255))), 11, [10, 4, 3, 2, 1, 0, 9, 8, 7, 6, 5]⟩, ⟨(some 3), .none, (.mov (.t 24)), 12, [11, 10, 4, 3, 2, 1, 0, 9, 8, 7, 6, 5]⟩]) (.seq (.seq (.reg true [⟨(some 25), .none, (.mov (.t 0)), 0, []⟩, ⟨(some 26), .none, (.nilc (.t 25)), 1, [0]⟩, ⟨(some 27), .none, (.fadr 1 (.t 26)), 2, [1, 0]⟩, ⟨(some 28), .none, (.load 1 false (.t 27)), 3, [2, 1, 0]⟩, ⟨(some 29), .none, (.mov (.t 0)), 4, []⟩, ⟨(some 30), .none, (.nilc (.t 29)), 5, [4]⟩, ⟨(some 31), .none, (.fadr 0 (.t 30)), 6, [5, 4]⟩, ⟨(some 32), .none, (.load 1 false (.t 31)), 7, [6, 5, 4]⟩, ⟨(some 33), .none, (.lenS (.t 32)), 8, [7, 6, 5, 4]⟩, ⟨(some 34), .none, (.bin .lss (.t 28) (.t 33)), 9, [3, 2, 1, 0, 8, 7, 6, 5, 4]⟩]) (.cond (.t 34) (.seq (.reg true [⟨(some 35), .none, (.mov (.t 3)), 0, []⟩, ⟨(some 36), .none, (.mov (.t 0)), 1, []⟩, ⟨(some 37), .none, (.nilc (.t 36)), 2, [1]⟩, ⟨(some 38), .none, (.fadr 0 (.t 37)), 3, [2, 1]⟩, ⟨(some 39), .none, (.load 1 false (.t 38)), 4, [3, 2, 1]⟩, ⟨(some 40), .none, (.mov (.t 0)), 5, []⟩, ⟨(some 41), .none, (.nilc (.t 40)), 6, [5]⟩, ⟨(some 42), .none, (.fadr 1 (.t 41)), 7, [6, 5]⟩, ⟨(some 43), .none, (.load 1 false (.t 42)), 8, [7, 6, 5]⟩, ⟨(some 44), .none, (.iadr 1 (.t 39) (.t 43)), 9, [4, 3, 2, 1, 8, 7, 6, 5]⟩, ⟨(some 45), .none, (.load 1 false (.t 44)), 10, [9, 4, 3, 2, 1, 8, 7, 6, 5]⟩, ⟨(some 46), .none, (.toInt .i64 (.t 45)), 11, [10, 9, 4, 3, 2, 1, 8, 7, 6, 5]⟩, ⟨(some 47), .none, (.bin .add (.t 35) (.t 46)), 12, [0, 11, 10, 9, 4, 3, 2, 1, 8, 7, 6, 5]⟩, ⟨(some 48), .none, (.bin .and (.t 47) (.c (.int .i64 255))), 13, [12, 0, 11, 10, 9, 4, 3, 2, 1, 8, 7, 6, 5]⟩, ⟨(some 3), .none, (.mov (.t 48)), 14, [13, 12, 0, 11, 10, 9, 4, 3, 2, 1, 8, 7, 6, 5]⟩]) (.reg false [⟨(some 49), .none, (.mov (.t 0)), 0, []⟩, ⟨(some 50), .none, (.mov (.t 0)), 1, []⟩, ⟨(some 51), .none, (.nilc (.t 50)), 2, []⟩, ⟨(some 52), .none, (.fadr 1 (.t 51)), 3, []⟩, ⟨(some 53), .none, (.load 1 false (.t 52)), 4, []⟩, ⟨(some 54), .none, (.bin .add (.t 53) (.c (.int .i64 1))), 5, []⟩, ⟨(some 55), .none, (.nilc (.t 49)), 6, []⟩, ⟨(some 56), .none, (.fadr 1 (.t 55)), 7, []⟩, ⟨.none, .none, (.store 1 (.t 56) (.t 54)), 8, []⟩])) .skip)) (.seq (.reg false [⟨(some 57), .none, (.mov (.t 3)), 0, []⟩, ⟨(some 2), .none, (.mov (.t 57)), 1, []⟩]) .ret))))), [(.t 2)]⟩
theorem k89 : EE.fns 89 = some c89 := by kernel_rfl
end Go.Proofs.Ytdplmjlbkaipiaa.Ev

/- How far one realm is from another: plain, with no program in sight. -/
namespace Go.Proofs.Ytdplmjlbkaipiaa.Ev
set_option linter.all false
open Go

/-- A way of at most so many hops. -/
def Rn (P : Hop → Prop) : Nat → Int → Int → Prop
  | 0, a, b => a = b
  | n + 1, a, b => Rn P n a b ∨ ∃ c, Rn P n a c ∧ P (c, b)

variable {P : Hop → Prop}

theorem Rn.mono {n k : Nat} (h : n ≤ k) {a b : Int} (hr : Rn P n a b) : Rn P k a b := by
  induction k with
  | zero =>
    have : n = 0 := by omega
    subst this
    exact hr
  | succ k ih =>
    by_cases hk : n = k + 1
    · subst hk; exact hr
    · exact .inl (ih (by omega))

theorem Rn.head : ∀ {n : Nat} {a b : Int}, Rn P (n + 1) a b ↔ Rn P n a b ∨ ∃ c, P (a, c) ∧ Rn P n c b
  | 0, a, b => by
    constructor
    · rintro (h | ⟨c, h, hp⟩)
      · exact .inl h
      · have h : a = c := h
        subst h
        exact .inr ⟨b, hp, rfl⟩
    · rintro (h | ⟨c, hp, h⟩)
      · exact .inl h
      · have h : c = b := h
        subst h
        exact .inr ⟨a, rfl, hp⟩
  | n + 1, a, b => by
    constructor
    · rintro (h | ⟨c, h, hp⟩)
      · exact .inl h
      · rcases Rn.head.1 h with h | ⟨d, hd, h⟩
        · exact .inl (.inr ⟨c, h, hp⟩)
        · exact .inr ⟨d, hd, .inr ⟨c, h, hp⟩⟩
    · rintro (h | ⟨c, hp, h⟩)
      · exact .inl h
      · rcases h with h | ⟨d, h, hd⟩
        · exact .inl (Rn.head.2 (.inr ⟨c, hp, h⟩))
        · exact .inr ⟨d, Rn.head.2 (.inr ⟨c, hp, h⟩), hd⟩

open Classical in
/-- How far, if not farther than so many hops; else -1. -/
noncomputable def Dn (P : Hop → Prop) (to : Int) : Nat → Int → Int
  | 0, x => if x = to then 0 else -1
  | k + 1, x => if 0 ≤ Dn P to k x then Dn P to k x else if Rn P (k + 1) x to then (k + 1 : Nat) else -1

variable {to : Int}

theorem Dn.cases : ∀ (k : Nat) (x : Int), (Dn P to k x = -1 ∧ ¬ Rn P k x to) ∨ ∃ n : Nat, Dn P to k x = n ∧ n ≤ k ∧ Rn P n x to ∧ ∀ j, j < n → ¬ Rn P j x to
  | 0, x => by
    unfold Dn
    split
    · rename_i h; exact .inr ⟨0, rfl, Nat.le_refl _, h, fun j hj => by omega⟩
    · rename_i h; exact .inl ⟨rfl, h⟩
  | k + 1, x => by
    unfold Dn
    rcases Dn.cases k x with ⟨h, hn⟩ | ⟨n, h, hk, hr, hm⟩
    · rw [h, if_neg (by omega)]
      split
      · rename_i hr; exact .inr ⟨k + 1, rfl, Nat.le_refl _, hr, fun j hj hj2 => hn (hj2.mono (by omega))⟩
      · rename_i hr; exact .inl ⟨rfl, hr⟩
    · rw [h, if_pos (by omega)]
      exact .inr ⟨n, rfl, by omega, hr, hm⟩

theorem Dn.nonneg {k : Nat} {x : Int} : 0 ≤ Dn P to k x ↔ Rn P k x to := by
  rcases Dn.cases (P := P) (to := to) k x with ⟨h, hn⟩ | ⟨n, h, hk, hr, hm⟩
  · rw [h]; exact ⟨fun h => by omega, fun h => absurd h hn⟩
  · rw [h]; exact ⟨fun _ => hr.mono hk, fun _ => by omega⟩

open Classical in
theorem Dn.step {k : Nat} {x : Int} : Dn P to (k + 1) x = if 0 ≤ Dn P to k x then Dn P to k x else if ∃ y, P (x, y) ∧ Dn P to k y = (k : Int) then ((k + 1 : Nat) : Int) else -1 := by
  rw [Dn]
  by_cases h0 : 0 ≤ Dn P to k x
  · rw [if_pos h0, if_pos h0]
  · rw [if_neg h0, if_neg h0]
    have hn : ¬ Rn P k x to := fun h => h0 (Dn.nonneg.2 h)
    have : Rn P (k + 1) x to ↔ ∃ y, P (x, y) ∧ Dn P to k y = (k : Int) := by
      rw [Rn.head]
      constructor
      · rintro (h | ⟨c, hp, h⟩)
        · exact absurd h hn
        · refine ⟨c, hp, ?_⟩
          rcases Dn.cases (P := P) (to := to) k c with ⟨_, h2⟩ | ⟨n, h2, hk, hr, _⟩
          · exact absurd h h2
          · by_cases hnk : n = k
            · rw [h2, hnk]
            · exact absurd ((Rn.head.2 (.inr ⟨c, hp, hr⟩) : Rn P (n + 1) x to).mono (by omega)) hn
      · rintro ⟨c, hp, h⟩
        exact .inr ⟨c, hp, Dn.nonneg.1 (by rw [h]; omega)⟩
    by_cases h : Rn P (k + 1) x to
    · rw [if_pos h, if_pos (this.1 h)]
    · rw [if_neg h, if_neg (fun h2 => h (this.2 h2))]

theorem Dn.le {k : Nat} {x : Int} : Dn P to k x ≤ k := by
  rcases Dn.cases (P := P) (to := to) k x with ⟨h, _⟩ | ⟨n, h, hk, _⟩ <;> rw [h] <;> omega

/-- One hop nearer. -/
theorem Dn.nearer {k : Nat} {x : Int} {n : Nat} (h : Dn P to k x = ((n + 1 : Nat) : Int)) : ∃ y, P (x, y) ∧ Dn P to k y = (n : Int) := by
  rcases Dn.cases (P := P) (to := to) k x with ⟨h2, _⟩ | ⟨m, h2, hk, hr, hm⟩
  · rw [h2] at h; omega
  · have hmn : m = n + 1 := by rw [h2] at h; omega
    subst hmn
    rcases Rn.head.1 hr with hr | ⟨c, hp, hr⟩
    · exact absurd hr (hm n (by omega))
    · refine ⟨c, hp, ?_⟩
      rcases Dn.cases (P := P) (to := to) k c with ⟨_, h3⟩ | ⟨j, h3, hj, hr2, hm2⟩
      · exact absurd (hr.mono (by omega)) h3
      · have h4 : j ≤ n := by
          rcases Nat.lt_or_ge n j with h5 | h5
          · exact absurd hr (hm2 n h5)
          · exact h5
        have h5 : n ≤ j := by
          rcases Nat.lt_or_ge j n with h6 | h6
          · exact absurd (Rn.head.2 (.inr ⟨c, hp, hr2⟩)) (hm (j + 1) (by omega))
          · exact h6
        rw [h3]
        omega
end Go.Proofs.Ytdplmjlbkaipiaa.Ev

/- Code of the program's functions, as the small machine has it: written by mkcode.py. -/
namespace Go.Proofs.Ytdplmjlbkaipiaa.Ev
set_option linter.all false
open Go
def c5 : CF := ⟨79, (.seq (.reg false [⟨(some 6), .none, (.mov (.c (.bool false))), 0, []⟩]) (.seq (.reg false [⟨(some 7), .none, (.mov (.c (.int .i64 1048576))), 0, []⟩]) (.seq (.reg false [⟨(some 15), .none, (.mov (.t 0)), 0, []⟩, ⟨(some 16), .none, (.mov (.t 7)), 1, []⟩, ⟨(some 17), .none, (.call 15 [(.t 15), (.t 16)]), 2, []⟩, ⟨(some 7), .none, (.mov (.t 17)), 3, []⟩]) (.seq (.seq (.reg false [⟨(some 18), .none, (.mov (.t 7)), 0, []⟩, ⟨(some 19), .none, (.bin .lss (.t 18) (.c (.int .i64 0))), 1, []⟩]) (.cond (.t 19) (.seq (.reg false [⟨(some 6), .none, (.mov (.c (.bool true))), 0, []⟩]) .ret) .skip)) (.seq (.reg false [⟨(some 20), .none, (.mov (.t 0)), 0, []⟩, ⟨(some 21), .none, (.call 17 [(.t 20)]), 1, []⟩, ⟨(some 22), .none, (.mov (.t 1)), 2, []⟩, ⟨(some 23), .none, (.mov (.t 2)), 3, []⟩, ⟨(some 24), .none, (.call 24 [(.t 21), (.t 22), (.t 23)]), 4, []⟩, ⟨(some 8), .none, (.mov (.t 24)), 5, []⟩]) (.seq (.reg false [⟨(some 25), .none, (.mov (.t 0)), 0, []⟩, ⟨(some 26), .none, (.call 17 [(.t 25)]), 1, []⟩, ⟨(some 9), .none, (.mov (.t 26)), 2, []⟩]) (.seq (.reg false [⟨(some 27), .none, (.mov (.t 9)), 0, []⟩, ⟨(some 28), .none, (.mov (.t 1)), 1, []⟩, ⟨(some 29), .none, (.mov (.t 2)), 2, []⟩, ⟨(some 30), .none, (.call 25 [(.t 27), (.t 28), (.t 29)]), 3, []⟩, ⟨(some 10), .none, (.mov (.t 30)), 4, []⟩]) (.seq (.seq (.reg false [⟨(some 31), .none, (.mov (.t 10)), 0, []⟩, ⟨(some 32), .none, (.mov (.t 8)), 1, []⟩, ⟨(some 33), .none, (.call 23 [(.t 31), (.t 32)]), 2, []⟩, ⟨(some 34), .none, (.un .not (.t 33)), 3, []⟩]) (.cond (.t 34) (.seq (.reg false [⟨(some 6), .none, (.mov (.c (.bool false))), 0, []⟩]) .ret) .skip)) (.seq (.seq (.reg false [⟨(some 35), .none, (.mov (.t 9)), 0, []⟩, ⟨(some 36), .none, (.mov (.t 0)), 1, []⟩, ⟨(some 37), .none, (.call 17 [(.t 36)]), 2, []⟩, ⟨(some 38), .none, (.call 19 [(.t 35), (.t 37)]), 3, []⟩, ⟨(some 39), .none, (.un .not (.t 38)), 4, []⟩]) (.cond (.t 39) (.seq (.reg false [⟨(some 6), .none, (.mov (.c (.bool false))), 0, []⟩]) .ret) .skip)) (.seq (.reg false [⟨(some 11), .none, (.mov (.c (.int .i64 1))), 0, []⟩]) (.seq (.reg false [⟨(some 40), .none, (.mov (.t 9)), 0, []⟩, ⟨(some 41), .none, (.mov (.t 11)), 1, []⟩, ⟨(some 42), .none, (.call 26 [(.t 40), (.t 41)]), 2, []⟩, ⟨(some 11), .none, (.mov (.t 42)), 3, []⟩]) (.seq (.seq (.reg false [⟨(some 43), .none, (.mov (.t 11)), 0, []⟩, ⟨(some 44), .none, (.bin .lss (.t 43) (.c (.int .i64 0))), 1, []⟩, ⟨(some 45), .none, (.mov (.t 44)), 2, []⟩, ⟨(some 46), (.some (45, false)), (.mov (.t 10)), 3, []⟩, ⟨(some 47), (.some (45, false)), (.mov (.t 8)), 4, []⟩, ⟨(some 48), (.some (45, false)), (.call 23 [(.t 46), (.t 47)]), 5, []⟩, ⟨(some 49), (.some (45, false)), (.un .not (.t 48)), 6, []⟩, ⟨(some 50), .none, (.pick (.t 45) (.c (.bool true)) (.t 49)), 7, []⟩]) (.cond (.t 50) (.seq (.reg false [⟨(some 6), .none, (.mov (.c (.bool false))), 0, []⟩]) .ret) .skip)) (.seq (.reg false [⟨(some 12), .none, (.mov (.c (.int .i64 1))), 0, []⟩]) (.seq (.reg false [⟨(some 51), .none, (.mov (.t 10)), 0, []⟩, ⟨(some 52), .none, (.mov (.t 12)), 1, []⟩, ⟨(some 53), .none, (.call 27 [(.t 51), (.t 52)]), 2, []⟩, ⟨(some 12), .none, (.mov (.t 53)), 3, []⟩]) (.seq (.reg false [⟨(some 13), .none, (.mov (.c (.int .i64 1))), 0, []⟩]) (.seq (.reg false [⟨(some 54), .none, (.mov (.t 10)), 0, []⟩, ⟨(some 55), .none, (.mov (.t 13)), 1, []⟩, ⟨(some 56), .none, (.call 28 [(.t 54), (.t 55)]), 2, []⟩, ⟨(some 13), .none, (.mov (.t 56)), 3, []⟩]) (.seq (.seq (.reg false [⟨(some 57), .none, (.mov (.t 13)), 0, []⟩, ⟨(some 58), .none, (.bin .lss (.t 57) (.c (.int .i64 0))), 1, []⟩]) (.cond (.t 58) (.seq (.reg false [⟨(some 6), .none, (.mov (.c (.bool false))), 0, []⟩]) .ret) .skip)) (.seq (.seq (.reg false [⟨(some 59), .none, (.mov (.t 13)), 0, []⟩, ⟨(some 60), .none, (.mov (.t 12)), 1, []⟩, ⟨(some 61), .none, (.bin .neq (.t 59) (.t 60)), 2, []⟩]) (.cond (.t 61) (.seq (.reg false [⟨(some 6), .none, (.mov (.c (.bool false))), 0, []⟩]) .ret) .skip)) (.seq (.reg false [⟨(some 62), .none, (.mov (.t 0)), 0, []⟩, ⟨(some 63), .none, (.call 17 [(.t 62)]), 1, []⟩, ⟨(some 64), .none, (.mov (.t 1)), 2, []⟩, ⟨(some 65), .none, (.mov (.t 2)), 3, []⟩, ⟨(some 66), .none, (.call 25 [(.t 63), (.t 64), (.t 65)]), 4, []⟩, ⟨(some 14), .none, (.mov (.t 66)), 5, []⟩]) (.seq (.seq (.reg false [⟨(some 67), .none, (.mov (.t 14)), 0, []⟩, ⟨(some 68), .none, (.mov (.t 8)), 1, []⟩, ⟨(some 69), .none, (.call 23 [(.t 67), (.t 68)]), 2, []⟩, ⟨(some 70), .none, (.un .not (.t 69)), 3, []⟩]) (.cond (.t 70) (.seq (.reg false [⟨(some 6), .none, (.mov (.c (.bool false))), 0, []⟩]) .ret) .skip)) (.seq (.reg false [⟨(some 13), .none, (.mov (.c (.int .i64 1))), 0, []⟩]) (.seq (.reg false [⟨(some 71), .none, (.mov (.t 10)), 0, []⟩, ⟨(some 72), .none, (.mov (.t 13)), 1, []⟩, ⟨(some 73), .none, (.call 28 [(.t 71), (.t 72)]), 2, []⟩, ⟨(some 13), .none, (.mov (.t 73)), 3, []⟩]) (.seq (.seq (.reg false [⟨(some 74), .none, (.mov (.t 13)), 0, []⟩, ⟨(some 75), .none, (.bin .lss (.t 74) (.c (.int .i64 0))), 1, []⟩]) (.cond (.t 75) (.seq (.reg false [⟨(some 6), .none, (.mov (.c (.bool false))), 0, []⟩]) .ret) .skip)) (.seq (.seq (.reg false [⟨(some 76), .none, (.mov (.t 13)), 0, []⟩, ⟨(some 77), .none, (.mov (.t 12)), 1, []⟩, ⟨(some 78), .none, (.bin .neq (.t 76) (.t 77)), 2, []⟩]) (.cond (.t 78) (.seq (.reg false [⟨(some 6), .none, (.mov (.c (.bool false))), 0, []⟩]) .ret) .skip)) (.seq (.reg false [⟨(some 6), .none, (.mov (.c (.bool true))), 0, []⟩]) .ret))))))))))))))))))))))))), [(.t 6)]⟩
theorem k5 : EE.fns 5 = some c5 := by kernel_rfl
def c6 : CF := ⟨79, (.seq (.reg false [⟨(some 6), .none, (.mov (.c (.bool false))), 0, []⟩]) (.seq (.reg false [⟨(some 7), .none, (.mov (.c (.int .i64 1048576))), 0, []⟩]) (.seq (.reg false [⟨(some 15), .none, (.mov (.t 0)), 0, []⟩, ⟨(some 16), .none, (.mov (.t 7)), 1, []⟩, ⟨(some 17), .none, (.call 15 [(.t 15), (.t 16)]), 2, []⟩, ⟨(some 7), .none, (.mov (.t 17)), 3, []⟩]) (.seq (.seq (.reg false [⟨(some 18), .none, (.mov (.t 7)), 0, []⟩, ⟨(some 19), .none, (.bin .lss (.t 18) (.c (.int .i64 0))), 1, []⟩]) (.cond (.t 19) (.seq (.reg false [⟨(some 6), .none, (.mov (.c (.bool true))), 0, []⟩]) .ret) .skip)) (.seq (.reg false [⟨(some 20), .none, (.mov (.t 0)), 0, []⟩, ⟨(some 21), .none, (.call 17 [(.t 20)]), 1, []⟩, ⟨(some 22), .none, (.mov (.t 1)), 2, []⟩, ⟨(some 23), .none, (.mov (.t 2)), 3, []⟩, ⟨(some 24), .none, (.call 29 [(.t 21), (.t 22), (.t 23)]), 4, []⟩, ⟨(some 8), .none, (.mov (.t 24)), 5, []⟩]) (.seq (.reg false [⟨(some 25), .none, (.mov (.t 0)), 0, []⟩, ⟨(some 26), .none, (.call 17 [(.t 25)]), 1, []⟩, ⟨(some 9), .none, (.mov (.t 26)), 2, []⟩]) (.seq (.reg false [⟨(some 27), .none, (.mov (.t 9)), 0, []⟩, ⟨(some 28), .none, (.mov (.t 1)), 1, []⟩, ⟨(some 29), .none, (.mov (.t 2)), 2, []⟩, ⟨(some 30), .none, (.call 30 [(.t 27), (.t 28), (.t 29)]), 3, []⟩, ⟨(some 10), .none, (.mov (.t 30)), 4, []⟩]) (.seq (.seq (.reg false [⟨(some 31), .none, (.mov (.t 10)), 0, []⟩, ⟨(some 32), .none, (.mov (.t 8)), 1, []⟩, ⟨(some 33), .none, (.call 23 [(.t 31), (.t 32)]), 2, []⟩, ⟨(some 34), .none, (.un .not (.t 33)), 3, []⟩]) (.cond (.t 34) (.seq (.reg false [⟨(some 6), .none, (.mov (.c (.bool false))), 0, []⟩]) .ret) .skip)) (.seq (.seq (.reg false [⟨(some 35), .none, (.mov (.t 9)), 0, []⟩, ⟨(some 36), .none, (.mov (.t 0)), 1, []⟩, ⟨(some 37), .none, (.call 17 [(.t 36)]), 2, []⟩, ⟨(some 38), .none, (.call 19 [(.t 35), (.t 37)]), 3, []⟩, ⟨(some 39), .none, (.un .not (.t 38)), 4, []⟩]) (.cond (.t 39) (.seq (.reg false [⟨(some 6), .none, (.mov (.c (.bool false))), 0, []⟩]) .ret) .skip)) (.seq (.reg false [⟨(some 11), .none, (.mov (.c (.int .i64 1))), 0, []⟩]) (.seq (.reg false [⟨(some 40), .none, (.mov (.t 9)), 0, []⟩, ⟨(some 41), .none, (.mov (.t 11)), 1, []⟩, ⟨(some 42), .none, (.call 26 [(.t 40), (.t 41)]), 2, []⟩, ⟨(some 11), .none, (.mov (.t 42)), 3, []⟩]) (.seq (.seq (.reg false [⟨(some 43), .none, (.mov (.t 11)), 0, []⟩, ⟨(some 44), .none, (.bin .lss (.t 43) (.c (.int .i64 0))), 1, []⟩, ⟨(some 45), .none, (.mov (.t 44)), 2, []⟩, ⟨(some 46), (.some (45, false)), (.mov (.t 10)), 3, []⟩, ⟨(some 47), (.some (45, false)), (.mov (.t 8)), 4, []⟩, ⟨(some 48), (.some (45, false)), (.call 23 [(.t 46), (.t 47)]), 5, []⟩, ⟨(some 49), (.some (45, false)), (.un .not (.t 48)), 6, []⟩, ⟨(some 50), .none, (.pick (.t 45) (.c (.bool true)) (.t 49)), 7, []⟩]) (.cond (.t 50) (.seq (.reg false [⟨(some 6), .none, (.mov (.c (.bool false))), 0, []⟩]) .ret) .skip)) (.seq (.reg false [⟨(some 12), .none, (.mov (.c (.int .i64 1))), 0, []⟩]) (.seq (.reg false [⟨(some 51), .none, (.mov (.t 10)), 0, []⟩, ⟨(some 52), .none, (.mov (.t 12)), 1, []⟩, ⟨(some 53), .none, (.call 27 [(.t 51), (.t 52)]), 2, []⟩, ⟨(some 12), .none, (.mov (.t 53)), 3, []⟩]) (.seq (.reg false [⟨(some 13), .none, (.mov (.c (.int .i64 1))), 0, []⟩]) (.seq (.reg false [⟨(some 54), .none, (.mov (.t 10)), 0, []⟩, ⟨(some 55), .none, (.mov (.t 13)), 1, []⟩, ⟨(some 56), .none, (.call 28 [(.t 54), (.t 55)]), 2, []⟩, ⟨(some 13), .none, (.mov (.t 56)), 3, []⟩]) (.seq (.seq (.reg false [⟨(some 57), .none, (.mov (.t 13)), 0, []⟩, ⟨(some 58), .none, (.bin .lss (.t 57) (.c (.int .i64 0))), 1, []⟩]) (.cond (.t 58) (.seq (.reg false [⟨(some 6), .none, (.mov (.c (.bool false))), 0, []⟩]) .ret) .skip)) (.seq (.seq (.reg false [⟨(some 59), .none, (.mov (.t 13)), 0, []⟩, ⟨(some 60), .none, (.mov (.t 12)), 1, []⟩, ⟨(some 61), .none, (.bin .neq (.t 59) (.t 60)), 2, []⟩]) (.cond (.t 61) (.seq (.reg false [⟨(some 6), .none, (.mov (.c (.bool false))), 0, []⟩]) .ret) .skip)) (.seq (.reg false [⟨(some 62), .none, (.mov (.t 0)), 0, []⟩, ⟨(some 63), .none, (.call 17 [(.t 62)]), 1, []⟩, ⟨(some 64), .none, (.mov (.t 1)), 2, []⟩, ⟨(some 65), .none, (.mov (.t 2)), 3, []⟩, ⟨(some 66), .none, (.call 30 [(.t 63), (.t 64), (.t 65)]), 4, []⟩, ⟨(some 14), .none, (.mov (.t 66)), 5, []⟩]) (.seq (.seq (.reg false [⟨(some 67), .none, (.mov (.t 14)), 0, []⟩, ⟨(some 68), .none, (.mov (.t 8)), 1, []⟩, ⟨(some 69), .none, (.call 23 [(.t 67), (.t 68)]), 2, []⟩, ⟨(some 70), .none, (.un .not (.t 69)), 3, []⟩]) (.cond (.t 70) (.seq (.reg false [⟨(some 6), .none, (.mov (.c (.bool false))), 0, []⟩]) .ret) .skip)) (.seq (.reg false [⟨(some 13), .none, (.mov (.c (.int .i64 1))), 0, []⟩]) (.seq (.reg false [⟨(some 71), .none, (.mov (.t 10)), 0, []⟩, ⟨(some 72), .none, (.mov (.t 13)), 1, []⟩, ⟨(some 73), .none, (.call 28 [(.t 71), (.t 72)]), 2, []⟩, ⟨(some 13), .none, (.mov (.t 73)), 3, []⟩]) (.seq (.seq (.reg false [⟨(some 74), .none, (.mov (.t 13)), 0, []⟩, ⟨(some 75), .none, (.bin .lss (.t 74) (.c (.int .i64 0))), 1, []⟩]) (.cond (.t 75) (.seq (.reg false [⟨(some 6), .none, (.mov (.c (.bool false))), 0, []⟩]) .ret) .skip)) (.seq (.seq (.reg false [⟨(some 76), .none, (.mov (.t 13)), 0, []⟩, ⟨(some 77), .none, (.mov (.t 12)), 1, []⟩, ⟨(some 78), .none, (.bin .neq (.t 76) (.t 77)), 2, []⟩]) (.cond (.t 78) (.seq (.reg false [⟨(some 6), .none, (.mov (.c (.bool false))), 0, []⟩]) .ret) .skip)) (.seq (.reg false [⟨(some 6), .none, (.mov (.c (.bool true))), 0, []⟩]) .ret))))))))))))))))))))))))), [(.t 6)]⟩
theorem k6 : EE.fns 6 = some c6 := by kernel_rfl
def c24 : CF := ⟨72, (.seq (.reg false [⟨(some 6), .none, (.mov (.c (.slice .none 0 0))), 0, []⟩]) (.seq (.reg false [⟨(some 12), .none, (.mkO 0 1 [(.int .i64 0)] []), 0, []⟩, ⟨(some 7), .none, (.mov (.t 12)), 1, []⟩]) (.seq (.seq (.reg false [⟨(some 13), .none, (.mov (.t 0)), 0, []⟩, ⟨(some 14), .none, (.call 16 [(.t 13)]), 1, []⟩, ⟨(some 15), .none, (.un .not (.t 14)), 2, []⟩, ⟨(some 16), .none, (.mov (.t 15)), 3, []⟩, ⟨(some 17), (.some (16, false)), (.mov (.t 1)), 4, []⟩, ⟨(some 18), (.some (16, false)), (.call 55 [(.t 17)]), 5, []⟩, ⟨(some 19), (.some (16, false)), (.un .not (.t 18)), 6, []⟩, ⟨(some 20), .none, (.pick (.t 16) (.c (.bool true)) (.t 19)), 7, []⟩, ⟨(some 21), .none, (.mov (.t 20)), 8, []⟩, ⟨(some 22), (.some (21, false)), (.mov (.t 2)), 9, []⟩, ⟨(some 23), (.some (21, false)), (.call 55 [(.t 22)]), 10, []⟩, ⟨(some 24), (.some (21, false)), (.un .not (.t 23)), 11, []⟩, ⟨(some 25), .none, (.pick (.t 21) (.c (.bool true)) (.t 24)), 12, []⟩]) (.cond (.t 25) (.seq (.reg false [⟨(some 26), .none, (.mov (.t 7)), 0, []⟩, ⟨(some 6), .none, (.mov (.t 26)), 1, []⟩]) .ret) .skip)) (.seq (.reg false [⟨(some 27), .none, (.mov (.t 0)), 0, []⟩, ⟨(some 28), .none, (.mov (.t 2)), 1, []⟩, ⟨(some 29), .none, (.call 63 [(.t 27), (.t 28), (.c (.int .i64 (-1)))]), 2, []⟩, ⟨(some 8), .none, (.mov (.t 29)), 3, []⟩]) (.seq (.seq (.reg false [⟨(some 30), .none, (.mov (.t 8)), 0, []⟩, ⟨(some 31), .none, (.mov (.t 1)), 1, []⟩, ⟨(some 32), .none, (.iadr 1 (.t 30) (.t 31)), 2, []⟩, ⟨(some 33), .none, (.load 1 false (.t 32)), 3, []⟩, ⟨(some 34), .none, (.bin .lss (.t 33) (.c (.int .i64 0))), 4, []⟩]) (.cond (.t 34) (.seq (.reg false [⟨(some 35), .none, (.mov (.t 7)), 0, []⟩, ⟨(some 6), .none, (.mov (.t 35)), 1, []⟩]) .ret) .skip)) (.seq (.reg false [⟨(some 36), .none, (.mov (.t 7)), 0, []⟩, ⟨(some 37), .none, (.mov (.t 1)), 1, []⟩, ⟨(some 38), .none, (.mkV 1 1 [(.int .i64 0)] [(0, (.t 37))]), 2, []⟩, ⟨(some 39), .none, (.app 1 8 (.t 36) (.t 38)), 3, []⟩, ⟨(some 7), .none, (.mov (.t 39)), 4, []⟩]) (.seq (.reg false [⟨(some 40), .none, (.mov (.t 1)), 0, []⟩, ⟨(some 9), .none, (.mov (.t 40)), 1, []⟩]) (.seq (.block 0 (.loop (.seq (.seq (.reg false [⟨(some 41), .none, (.mov (.t 9)), 0, []⟩, ⟨(some 42), .none, (.mov (.t 2)), 1, []⟩, ⟨(some 43), .none, (.bin .neq (.t 41) (.t 42)), 2, []⟩]) (.cond (.t 43) .skip (.exit 0))) (.block 1 (.seq (.reg false [⟨(some 10), .none, (.mov (.c (.int .i64 (-1)))), 0, []⟩]) (.seq (.seq (.reg false [⟨(some 11), .none, (.mov (.c (.int .i64 7))), 0, []⟩]) (.block 2 (.loop (.seq (.seq (.reg false [⟨(some 44), .none, (.mov (.t 11)), 0, []⟩, ⟨(some 45), .none, (.bin .geq (.t 44) (.c (.int .i64 0))), 1, []⟩]) (.cond (.t 45) .skip (.exit 2))) (.seq (.block 3 (.seq (.reg true [⟨(some 48), .none, (.mov (.t 8)), 0, []⟩, ⟨(some 49), .none, (.mov (.t 11)), 1, []⟩, ⟨(some 50), .none, (.iadr 1 (.t 48) (.t 49)), 2, [0, 1]⟩, ⟨(some 51), .none, (.load 1 false (.t 50)), 3, [2, 0, 1]⟩, ⟨(some 52), .none, (.mov (.t 8)), 4, []⟩, ⟨(some 53), .none, (.mov (.t 9)), 5, []⟩, ⟨(some 54), .none, (.iadr 1 (.t 52) (.t 53)), 6, [4, 5]⟩, ⟨(some 55), .none, (.load 1 false (.t 54)), 7, [6, 4, 5]⟩, ⟨(some 56), .none, (.bin .sub (.t 55) (.c (.int .i64 1))), 8, [7, 6, 4, 5]⟩, ⟨(some 57), .none, (.bin .eql (.t 51) (.t 56)), 9, [3, 2, 0, 1, 8, 7, 6, 4, 5]⟩, ⟨(some 58), .none, (.mov (.t 57)), 10, [9, 3, 2, 0, 1, 8, 7, 6, 4, 5]⟩, ⟨(some 59), (.some (58, true)), (.mov (.t 0)), 11, [10, 9, 3, 2, 0, 1, 8, 7, 6, 4, 5]⟩, ⟨(some 60), (.some (58, true)), (.mov (.t 9)), 12, [10, 9, 3, 2, 0, 1, 8, 7, 6, 4, 5]⟩, ⟨(some 61), (.some (58, true)), (.mov (.t 11)), 13, [10, 9, 3, 2, 0, 1, 8, 7, 6, 4, 5]⟩, ⟨(some 62), (.some (58, true)), (.build [(.int .i64 0), (.int .i64 0)] [(0, (1, (.t 60))), (1, (1, (.t 61)))]), 14, [12, 10, 9, 3, 2, 0, 1, 8, 7, 6, 4, 5, 13]⟩, ⟨(some 63), (.some (58, true)), (.call 56 [(.t 59), (.t 62)]), 15, [11, 10, 9, 3, 2, 0, 1, 8, 7, 6, 4, 5, 14, 12, 13]⟩, ⟨(some 64), .none, (.pick (.t 58) (.t 63) (.c (.bool false))), 16, [10, 9, 3, 2, 0, 1, 8, 7, 6, 4, 5, 15, 11, 14, 12, 13]⟩]) (.cond (.t 64) (.reg false [⟨(some 65), .none, (.mov (.t 11)), 0, []⟩, ⟨(some 10), .none, (.mov (.t 65)), 1, []⟩]) .skip))) (.reg false [⟨(some 46), .none, (.mov (.t 11)), 0, []⟩, ⟨(some 47), .none, (.bin .sub (.t 46) (.c (.int .i64 1))), 1, []⟩, ⟨(some 11), .none, (.mov (.t 47)), 2, []⟩])))))) (.seq (.reg false [⟨(some 66), .none, (.mov (.t 7)), 0, []⟩, ⟨(some 67), .none, (.mov (.t 10)), 1, []⟩, ⟨(some 68), .none, (.mkV 1 1 [(.int .i64 0)] [(0, (.t 67))]), 2, []⟩, ⟨(some 69), .none, (.app 1 8 (.t 66) (.t 68)), 3, []⟩, ⟨(some 7), .none, (.mov (.t 69)), 4, []⟩]) (.reg false [⟨(some 70), .none, (.mov (.t 10)), 0, []⟩, ⟨(some 9), .none, (.mov (.t 70)), 1, []⟩])))))))) (.seq (.reg false [⟨(some 71), .none, (.mov (.t 7)), 0, []⟩, ⟨(some 6), .none, (.mov (.t 71)), 1, []⟩]) .ret))))))))), [(.t 6)]⟩
theorem k24 : EE.fns 24 = some c24 := by kernel_rfl
def c25 : CF := ⟨69, (.seq (.reg false [⟨(some 6), .none, (.mov (.c (.slice .none 0 0))), 0, []⟩]) (.seq (.reg false [⟨(some 11), .none, (.mkO 0 1 [(.int .i64 0)] []), 0, []⟩, ⟨(some 7), .none, (.mov (.t 11)), 1, []⟩]) (.seq (.seq (.reg false [⟨(some 12), .none, (.mov (.t 0)), 0, []⟩, ⟨(some 13), .none, (.call 18 [(.t 12)]), 1, []⟩, ⟨(some 14), .none, (.un .not (.t 13)), 2, []⟩, ⟨(some 15), .none, (.mov (.t 14)), 3, []⟩, ⟨(some 16), (.some (15, false)), (.mov (.t 1)), 4, []⟩, ⟨(some 17), (.some (15, false)), (.call 58 [(.t 16)]), 5, []⟩, ⟨(some 18), (.some (15, false)), (.un .not (.t 17)), 6, []⟩, ⟨(some 19), .none, (.pick (.t 15) (.c (.bool true)) (.t 18)), 7, []⟩, ⟨(some 20), .none, (.mov (.t 19)), 8, []⟩, ⟨(some 21), (.some (20, false)), (.mov (.t 2)), 9, []⟩, ⟨(some 22), (.some (20, false)), (.call 58 [(.t 21)]), 10, []⟩, ⟨(some 23), (.some (20, false)), (.un .not (.t 22)), 11, []⟩, ⟨(some 24), .none, (.pick (.t 20) (.c (.bool true)) (.t 23)), 12, []⟩, ⟨(some 25), .none, (.mov (.t 24)), 13, []⟩, ⟨(some 26), (.some (25, false)), (.mov (.t 0)), 14, []⟩, ⟨(some 27), (.some (25, false)), (.mov (.t 1)), 15, []⟩, ⟨(some 28), (.some (25, false)), (.mov (.t 2)), 16, []⟩, ⟨(some 29), (.some (25, false)), (.call 64 [(.t 26), (.t 27), (.t 28)]), 17, []⟩, ⟨(some 30), (.some (25, false)), (.bin .lss (.t 29) (.c (.int .i64 0))), 18, []⟩, ⟨(some 31), .none, (.pick (.t 25) (.c (.bool true)) (.t 30)), 19, []⟩]) (.cond (.t 31) (.seq (.reg false [⟨(some 32), .none, (.mov (.t 7)), 0, []⟩, ⟨(some 6), .none, (.mov (.t 32)), 1, []⟩]) .ret) .skip)) (.seq (.reg false [⟨(some 33), .none, (.mov (.t 7)), 0, []⟩, ⟨(some 34), .none, (.mov (.t 1)), 1, []⟩, ⟨(some 35), .none, (.mkV 1 1 [(.int .i64 0)] [(0, (.t 34))]), 2, []⟩, ⟨(some 36), .none, (.app 1 8 (.t 33) (.t 35)), 3, []⟩, ⟨(some 7), .none, (.mov (.t 36)), 4, []⟩]) (.seq (.seq (.reg false [⟨(some 37), .none, (.mov (.t 1)), 0, []⟩, ⟨(some 8), .none, (.mov (.t 37)), 1, []⟩]) (.block 0 (.loop (.seq (.seq (.reg false [⟨(some 38), .none, (.mov (.t 8)), 0, []⟩, ⟨(some 39), .none, (.mov (.t 2)), 1, []⟩, ⟨(some 40), .none, (.bin .neq (.t 38) (.t 39)), 2, []⟩]) (.cond (.t 40) .skip (.exit 0))) (.block 1 (.seq (.reg false [⟨(some 41), .none, (.mov (.t 0)), 0, []⟩, ⟨(some 42), .none, (.mov (.t 8)), 1, []⟩, ⟨(some 43), .none, (.mov (.t 2)), 2, []⟩, ⟨(some 44), .none, (.call 64 [(.t 41), (.t 42), (.t 43)]), 3, []⟩, ⟨(some 9), .none, (.mov (.t 44)), 4, []⟩]) (.seq (.seq (.reg false [⟨(some 45), .none, (.mov (.c (.int .i64 0))), 0, []⟩]) (.block 2 (.loop (.seq (.reg false [⟨(some 46), .none, (.bin .lss (.t 45) (.c (.int .i64 8))), 0, []⟩]) (.seq (.cond (.t 46) .skip (.exit 2)) (.seq (.block 3 (.seq (.reg false [⟨(some 47), .none, (.mov (.t 45)), 0, []⟩, ⟨(some 10), .none, (.mov (.t 47)), 1, []⟩]) (.seq (.reg false [⟨(some 48), .none, (.mov (.t 0)), 0, []⟩, ⟨(some 49), .none, (.mov (.t 8)), 1, []⟩, ⟨(some 50), .none, (.mov (.t 10)), 2, []⟩, ⟨(some 51), .none, (.build [(.int .i64 0), (.int .i64 0)] [(0, (1, (.t 49))), (1, (1, (.t 50)))]), 3, []⟩, ⟨(some 52), .none, (.call 59 [(.t 48), (.t 51)]), 4, []⟩, ⟨(some 53), .none, (.mov (.t 52)), 5, []⟩, ⟨(some 54), (.some (53, true)), (.mov (.t 0)), 6, []⟩, ⟨(some 55), (.some (53, true)), (.mov (.t 10)), 7, []⟩, ⟨(some 56), (.some (53, true)), (.mov (.t 2)), 8, []⟩, ⟨(some 57), (.some (53, true)), (.call 64 [(.t 54), (.t 55), (.t 56)]), 9, []⟩, ⟨(some 58), (.some (53, true)), (.mov (.t 9)), 10, []⟩, ⟨(some 59), (.some (53, true)), (.bin .sub (.t 58) (.c (.int .i64 1))), 11, []⟩, ⟨(some 60), (.some (53, true)), (.bin .eql (.t 57) (.t 59)), 12, []⟩, ⟨(some 61), .none, (.pick (.t 53) (.t 60) (.c (.bool false))), 13, []⟩]) (.cond (.t 61) (.seq (.reg false [⟨(some 62), .none, (.mov (.t 10)), 0, []⟩, ⟨(some 8), .none, (.mov (.t 62)), 1, []⟩]) (.exit 2)) .skip)))) (.reg false [⟨(some 63), .none, (.bin .add (.t 45) (.c (.int .i64 1))), 0, []⟩, ⟨(some 45), .none, (.mov (.t 63)), 1, []⟩]))))))) (.reg false [⟨(some 64), .none, (.mov (.t 7)), 0, []⟩, ⟨(some 65), .none, (.mov (.t 8)), 1, []⟩, ⟨(some 66), .none, (.mkV 1 1 [(.int .i64 0)] [(0, (.t 65))]), 2, []⟩, ⟨(some 67), .none, (.app 1 8 (.t 64) (.t 66)), 3, []⟩, ⟨(some 7), .none, (.mov (.t 67)), 4, []⟩])))))))) (.seq (.reg false [⟨(some 68), .none, (.mov (.t 7)), 0, []⟩, ⟨(some 6), .none, (.mov (.t 68)), 1, []⟩]) .ret)))))), [(.t 6)]⟩
theorem k25 : EE.fns 25 = some c25 := by kernel_rfl
def c29 : CF := ⟨44, (.seq (.reg false [⟨(some 6), .none, (.mov (.c (.slice .none 0 0))), 0, []⟩]) (.seq (.reg false [⟨(some 9), .none, (.mkO 0 1 [(.int .i64 0)] []), 0, []⟩, ⟨(some 7), .none, (.mov (.t 9)), 1, []⟩]) (.seq (.seq (.reg false [⟨(some 10), .none, (.mov (.t 0)), 0, []⟩, ⟨(some 11), .none, (.mov (.t 1)), 1, []⟩, ⟨(some 12), .none, (.mov (.t 2)), 2, []⟩, ⟨(some 13), .none, (.call 24 [(.t 10), (.t 11), (.t 12)]), 3, []⟩, ⟨(some 14), .none, (.lenS (.t 13)), 4, []⟩, ⟨(some 15), .none, (.bin .eql (.t 14) (.c (.int .i64 0))), 5, []⟩]) (.cond (.t 15) (.seq (.reg false [⟨(some 16), .none, (.mov (.t 7)), 0, []⟩, ⟨(some 6), .none, (.mov (.t 16)), 1, []⟩]) .ret) .skip)) (.seq (.seq (.reg false [⟨(some 8), .none, (.mov (.c (.int .i64 0))), 0, []⟩]) (.block 0 (.loop (.seq (.seq (.reg false [⟨(some 17), .none, (.mov (.t 8)), 0, []⟩, ⟨(some 18), .none, (.bin .lss (.t 17) (.c (.int .i64 8))), 1, []⟩]) (.cond (.t 18) .skip (.exit 0))) (.seq (.block 1 (.seq (.reg false [⟨(some 21), .none, (.mov (.t 8)), 0, []⟩, ⟨(some 22), .none, (.mov (.t 1)), 1, []⟩, ⟨(some 23), .none, (.bin .neq (.t 21) (.t 22)), 2, []⟩, ⟨(some 24), .none, (.mov (.t 23)), 3, []⟩, ⟨(some 25), (.some (24, true)), (.mov (.t 8)), 4, []⟩, ⟨(some 26), (.some (24, true)), (.mov (.t 2)), 5, []⟩, ⟨(some 27), (.some (24, true)), (.bin .neq (.t 25) (.t 26)), 6, []⟩, ⟨(some 28), .none, (.pick (.t 24) (.t 27) (.c (.bool false))), 7, []⟩, ⟨(some 29), .none, (.mov (.t 28)), 8, []⟩, ⟨(some 30), (.some (29, true)), (.mov (.t 0)), 9, []⟩, ⟨(some 31), (.some (29, true)), (.mov (.t 2)), 10, []⟩, ⟨(some 32), (.some (29, true)), (.mov (.t 8)), 11, []⟩, ⟨(some 33), (.some (29, true)), (.call 63 [(.t 30), (.t 31), (.t 32)]), 12, []⟩, ⟨(some 34), (.some (29, true)), (.mov (.t 1)), 13, []⟩, ⟨(some 35), (.some (29, true)), (.iadr 1 (.t 33) (.t 34)), 14, []⟩, ⟨(some 36), (.some (29, true)), (.load 1 false (.t 35)), 15, []⟩, ⟨(some 37), (.some (29, true)), (.bin .lss (.t 36) (.c (.int .i64 0))), 16, []⟩, ⟨(some 38), .none, (.pick (.t 29) (.t 37) (.c (.bool false))), 17, []⟩]) (.cond (.t 38) (.reg false [⟨(some 39), .none, (.mov (.t 7)), 0, []⟩, ⟨(some 40), .none, (.mov (.t 8)), 1, []⟩, ⟨(some 41), .none, (.mkV 1 1 [(.int .i64 0)] [(0, (.t 40))]), 2, []⟩, ⟨(some 42), .none, (.app 1 8 (.t 39) (.t 41)), 3, []⟩, ⟨(some 7), .none, (.mov (.t 42)), 4, []⟩]) .skip))) (.reg false [⟨(some 19), .none, (.mov (.t 8)), 0, []⟩, ⟨(some 20), .none, (.bin .add (.t 19) (.c (.int .i64 1))), 1, []⟩, ⟨(some 8), .none, (.mov (.t 20)), 2, []⟩])))))) (.seq (.reg false [⟨(some 43), .none, (.mov (.t 7)), 0, []⟩, ⟨(some 6), .none, (.mov (.t 43)), 1, []⟩]) .ret))))), [(.t 6)]⟩
theorem k29 : EE.fns 29 = some c29 := by kernel_rfl
def c30 : CF := ⟨43, (.seq (.reg false [⟨(some 6), .none, (.mov (.c (.slice .none 0 0))), 0, []⟩]) (.seq (.reg false [⟨(some 9), .none, (.mkO 0 1 [(.int .i64 0)] []), 0, []⟩, ⟨(some 7), .none, (.mov (.t 9)), 1, []⟩]) (.seq (.seq (.reg false [⟨(some 10), .none, (.mov (.t 0)), 0, []⟩, ⟨(some 11), .none, (.mov (.t 1)), 1, []⟩, ⟨(some 12), .none, (.mov (.t 2)), 2, []⟩, ⟨(some 13), .none, (.call 25 [(.t 10), (.t 11), (.t 12)]), 3, []⟩, ⟨(some 14), .none, (.lenS (.t 13)), 4, []⟩, ⟨(some 15), .none, (.bin .eql (.t 14) (.c (.int .i64 0))), 5, []⟩]) (.cond (.t 15) (.seq (.reg false [⟨(some 16), .none, (.mov (.t 7)), 0, []⟩, ⟨(some 6), .none, (.mov (.t 16)), 1, []⟩]) .ret) .skip)) (.seq (.seq (.reg false [⟨(some 17), .none, (.mov (.c (.int .i64 0))), 0, []⟩]) (.block 0 (.loop (.seq (.reg false [⟨(some 18), .none, (.bin .lss (.t 17) (.c (.int .i64 8))), 0, []⟩]) (.seq (.cond (.t 18) .skip (.exit 0)) (.seq (.block 1 (.seq (.reg false [⟨(some 19), .none, (.mov (.t 17)), 0, []⟩, ⟨(some 8), .none, (.mov (.t 19)), 1, []⟩]) (.seq (.reg false [⟨(some 20), .none, (.mov (.t 8)), 0, []⟩, ⟨(some 21), .none, (.mov (.t 1)), 1, []⟩, ⟨(some 22), .none, (.bin .neq (.t 20) (.t 21)), 2, []⟩, ⟨(some 23), .none, (.mov (.t 22)), 3, []⟩, ⟨(some 24), (.some (23, true)), (.mov (.t 8)), 4, []⟩, ⟨(some 25), (.some (23, true)), (.mov (.t 2)), 5, []⟩, ⟨(some 26), (.some (23, true)), (.bin .neq (.t 24) (.t 25)), 6, []⟩, ⟨(some 27), .none, (.pick (.t 23) (.t 26) (.c (.bool false))), 7, []⟩, ⟨(some 28), .none, (.mov (.t 27)), 8, []⟩, ⟨(some 29), (.some (28, true)), (.mov (.t 0)), 9, []⟩, ⟨(some 30), (.some (28, true)), (.mov (.t 1)), 10, []⟩, ⟨(some 31), (.some (28, true)), (.mov (.t 8)), 11, []⟩, ⟨(some 32), (.some (28, true)), (.call 65 [(.t 29), (.t 30), (.t 31)]), 12, []⟩, ⟨(some 33), (.some (28, true)), (.mov (.t 2)), 13, []⟩, ⟨(some 34), (.some (28, true)), (.call 62 [(.t 32), (.t 33)]), 14, []⟩, ⟨(some 35), (.some (28, true)), (.un .not (.t 34)), 15, []⟩, ⟨(some 36), .none, (.pick (.t 28) (.t 35) (.c (.bool false))), 16, []⟩]) (.cond (.t 36) (.reg false [⟨(some 37), .none, (.mov (.t 7)), 0, []⟩, ⟨(some 38), .none, (.mov (.t 8)), 1, []⟩, ⟨(some 39), .none, (.mkV 1 1 [(.int .i64 0)] [(0, (.t 38))]), 2, []⟩, ⟨(some 40), .none, (.app 1 8 (.t 37) (.t 39)), 3, []⟩, ⟨(some 7), .none, (.mov (.t 40)), 4, []⟩]) .skip)))) (.reg false [⟨(some 41), .none, (.bin .add (.t 17) (.c (.int .i64 1))), 0, []⟩, ⟨(some 17), .none, (.mov (.t 41)), 1, []⟩]))))))) (.seq (.reg false [⟨(some 42), .none, (.mov (.t 7)), 0, []⟩, ⟨(some 6), .none, (.mov (.t 42)), 1, []⟩]) .ret))))), [(.t 6)]⟩
theorem k30 : EE.fns 30 = some c30 := by kernel_rfl
def c63 : CF := ⟨73, (.seq (.reg false [⟨(some 6), .none, (.mov (.c (.slice .none 0 0))), 0, []⟩]) (.seq (.reg false [⟨(some 12), .none, (.makeS 1 8 [(.int .i64 0)] (.c (.int .i64 8)) (.c (.int .i64 8))), 0, []⟩, ⟨(some 7), .none, (.mov (.t 12)), 1, []⟩]) (.seq (.seq (.reg false [⟨(some 8), .none, (.mov (.c (.int .i64 0))), 0, []⟩]) (.block 0 (.loop (.seq (.seq (.reg false [⟨(some 13), .none, (.mov (.t 8)), 0, []⟩, ⟨(some 14), .none, (.mov (.t 7)), 1, []⟩, ⟨(some 15), .none, (.lenS (.t 14)), 2, []⟩, ⟨(some 16), .none, (.bin .lss (.t 13) (.t 15)), 3, []⟩]) (.cond (.t 16) .skip (.exit 0))) (.seq (.block 1 (.reg false [⟨(some 19), .none, (.mov (.t 7)), 0, []⟩, ⟨(some 20), .none, (.mov (.t 8)), 1, []⟩, ⟨(some 21), .none, (.iadr 1 (.t 19) (.t 20)), 2, []⟩, ⟨.none, .none, (.store 1 (.t 21) (.c (.int .i64 (-1)))), 3, []⟩])) (.reg false [⟨(some 17), .none, (.mov (.t 8)), 0, []⟩, ⟨(some 18), .none, (.bin .add (.t 17) (.c (.int .i64 1))), 1, []⟩, ⟨(some 8), .none, (.mov (.t 18)), 2, []⟩])))))) (.seq (.reg false [⟨(some 22), .none, (.mov (.t 7)), 0, []⟩, ⟨(some 23), .none, (.mov (.t 1)), 1, []⟩, ⟨(some 24), .none, (.iadr 1 (.t 22) (.t 23)), 2, []⟩, ⟨.none, .none, (.store 1 (.t 24) (.c (.int .i64 0))), 3, []⟩]) (.seq (.seq (.reg false [⟨(some 9), .none, (.mov (.c (.int .i64 0))), 0, []⟩]) (.block 2 (.loop (.seq (.seq (.reg false [⟨(some 25), .none, (.mov (.t 9)), 0, []⟩, ⟨(some 26), .none, (.bin .lss (.t 25) (.c (.int .i64 8))), 1, []⟩]) (.cond (.t 26) .skip (.exit 2))) (.seq (.block 3 (.seq (.reg false [⟨(some 10), .none, (.mov (.c (.int .i64 0))), 0, []⟩]) (.block 4 (.loop (.seq (.seq (.reg false [⟨(some 29), .none, (.mov (.t 10)), 0, []⟩, ⟨(some 30), .none, (.mov (.t 0)), 1, []⟩, ⟨(some 31), .none, (.lenS (.t 30)), 2, []⟩, ⟨(some 32), .none, (.bin .lss (.t 29) (.t 31)), 3, []⟩]) (.cond (.t 32) .skip (.exit 4))) (.seq (.block 5 (.seq (.reg false [⟨(some 35), .none, (.mov (.t 0)), 0, []⟩, ⟨(some 36), .none, (.mov (.t 10)), 1, []⟩, ⟨(some 37), .none, (.iadr 2 (.t 35) (.t 36)), 2, []⟩, ⟨(some 38), .none, (.load 2 true (.t 37)), 3, []⟩, ⟨(some 11), .none, (.newV [(.int .i64 0), (.int .i64 0)]), 4, []⟩, ⟨.none, .none, (.store 2 (.t 11) (.t 38)), 5, []⟩]) (.seq (.reg false [⟨(some 39), .none, (.mov (.t 7)), 0, []⟩, ⟨(some 40), .none, (.fadr 1 (.t 11)), 1, []⟩, ⟨(some 41), .none, (.load 1 false (.t 40)), 2, []⟩, ⟨(some 42), .none, (.iadr 1 (.t 39) (.t 41)), 3, []⟩, ⟨(some 43), .none, (.load 1 false (.t 42)), 4, []⟩, ⟨(some 44), .none, (.mov (.t 9)), 5, []⟩, ⟨(some 45), .none, (.bin .eql (.t 43) (.t 44)), 6, []⟩, ⟨(some 46), .none, (.mov (.t 45)), 7, []⟩, ⟨(some 47), (.some (46, true)), (.mov (.t 7)), 8, []⟩, ⟨(some 48), (.some (46, true)), (.fadr 0 (.t 11)), 9, []⟩, ⟨(some 49), (.some (46, true)), (.load 1 false (.t 48)), 10, []⟩, ⟨(some 50), (.some (46, true)), (.iadr 1 (.t 47) (.t 49)), 11, []⟩, ⟨(some 51), (.some (46, true)), (.load 1 false (.t 50)), 12, []⟩, ⟨(some 52), (.some (46, true)), (.bin .lss (.t 51) (.c (.int .i64 0))), 13, []⟩, ⟨(some 53), .none, (.pick (.t 46) (.t 52) (.c (.bool false))), 14, []⟩, ⟨(some 54), .none, (.mov (.t 53)), 15, []⟩, ⟨(some 55), (.some (54, true)), (.fadr 0 (.t 11)), 16, []⟩, ⟨(some 56), (.some (54, true)), (.load 1 false (.t 55)), 17, []⟩, ⟨(some 57), (.some (54, true)), (.mov (.t 2)), 18, []⟩, ⟨(some 58), (.some (54, true)), (.bin .neq (.t 56) (.t 57)), 19, []⟩, ⟨(some 59), .none, (.pick (.t 54) (.t 58) (.c (.bool false))), 20, []⟩, ⟨(some 60), .none, (.mov (.t 59)), 21, []⟩, ⟨(some 61), (.some (60, true)), (.fadr 1 (.t 11)), 22, []⟩, ⟨(some 62), (.some (60, true)), (.load 1 false (.t 61)), 23, []⟩, ⟨(some 63), (.some (60, true)), (.mov (.t 2)), 24, []⟩, ⟨(some 64), (.some (60, true)), (.bin .neq (.t 62) (.t 63)), 25, []⟩, ⟨(some 65), .none, (.pick (.t 60) (.t 64) (.c (.bool false))), 26, []⟩]) (.cond (.t 65) (.reg false [⟨(some 66), .none, (.mov (.t 7)), 0, []⟩, ⟨(some 67), .none, (.fadr 0 (.t 11)), 1, []⟩, ⟨(some 68), .none, (.load 1 false (.t 67)), 2, []⟩, ⟨(some 69), .none, (.mov (.t 9)), 3, []⟩, ⟨(some 70), .none, (.bin .add (.t 69) (.c (.int .i64 1))), 4, []⟩, ⟨(some 71), .none, (.iadr 1 (.t 66) (.t 68)), 5, []⟩, ⟨.none, .none, (.store 1 (.t 71) (.t 70)), 6, []⟩]) .skip)))) (.reg false [⟨(some 33), .none, (.mov (.t 10)), 0, []⟩, ⟨(some 34), .none, (.bin .add (.t 33) (.c (.int .i64 1))), 1, []⟩, ⟨(some 10), .none, (.mov (.t 34)), 2, []⟩]))))))) (.reg false [⟨(some 27), .none, (.mov (.t 9)), 0, []⟩, ⟨(some 28), .none, (.bin .add (.t 27) (.c (.int .i64 1))), 1, []⟩, ⟨(some 9), .none, (.mov (.t 28)), 2, []⟩])))))) (.seq (.reg false [⟨(some 72), .none, (.mov (.t 7)), 0, []⟩, ⟨(some 6), .none, (.mov (.t 72)), 1, []⟩]) .ret)))))), [(.t 6)]⟩
theorem k63 : EE.fns 63 = some c63 := by kernel_rfl
def c64 : CF := ⟨48, (.seq (.reg false [⟨(some 6), .none, (.mov (.c (.int .i64 0))), 0, []⟩]) (.seq (.reg false [⟨(some 12), .none, (.mov (.t 1)), 0, []⟩, ⟨(some 13), .none, (.mkO 1 1 [(.int .i64 0)] [(0, (.t 12))]), 1, []⟩, ⟨(some 7), .none, (.mov (.t 13)), 2, []⟩]) (.seq (.seq (.reg false [⟨(some 8), .none, (.mov (.c (.int .i64 0))), 0, []⟩]) (.block 0 (.loop (.seq (.seq (.reg false [⟨(some 14), .none, (.mov (.t 8)), 0, []⟩, ⟨(some 15), .none, (.bin .leq (.t 14) (.c (.int .i64 8))), 1, []⟩]) (.cond (.t 15) .skip (.exit 0))) (.seq (.block 1 (.seq (.seq (.reg false [⟨(some 18), .none, (.mov (.t 7)), 0, []⟩, ⟨(some 19), .none, (.mov (.t 2)), 1, []⟩, ⟨(some 20), .none, (.call 62 [(.t 18), (.t 19)]), 2, []⟩]) (.cond (.t 20) (.seq (.reg false [⟨(some 21), .none, (.mov (.t 8)), 0, []⟩, ⟨(some 6), .none, (.mov (.t 21)), 1, []⟩]) .ret) .skip)) (.seq (.reg false [⟨(some 22), .none, (.mov (.t 7)), 0, []⟩, ⟨(some 9), .none, (.mov (.t 22)), 1, []⟩]) (.seq (.seq (.reg false [⟨(some 23), .none, (.mov (.t 0)), 0, []⟩, ⟨(some 24), .none, (.lenS (.t 23)), 1, []⟩, ⟨(some 25), .none, (.mov (.c (.int .i64 0))), 2, []⟩]) (.block 2 (.loop (.seq (.reg false [⟨(some 26), .none, (.bin .lss (.t 25) (.t 24)), 0, []⟩]) (.seq (.cond (.t 26) .skip (.exit 2)) (.seq (.block 3 (.seq (.reg false [⟨(some 27), .none, (.iadr 2 (.t 23) (.t 25)), 0, []⟩, ⟨(some 28), .none, (.load 2 true (.t 27)), 1, []⟩, ⟨(some 11), .none, (.newV [(.int .i64 0), (.int .i64 0)]), 2, []⟩, ⟨.none, .none, (.store 2 (.t 11) (.t 28)), 3, []⟩]) (.seq (.reg false [⟨(some 29), .none, (.mov (.t 7)), 0, []⟩, ⟨(some 30), .none, (.fadr 0 (.t 11)), 1, []⟩, ⟨(some 31), .none, (.load 1 false (.t 30)), 2, []⟩, ⟨(some 32), .none, (.call 62 [(.t 29), (.t 31)]), 3, []⟩, ⟨(some 33), .none, (.mov (.t 32)), 4, []⟩, ⟨(some 34), (.some (33, true)), (.mov (.t 9)), 5, []⟩, ⟨(some 35), (.some (33, true)), (.fadr 1 (.t 11)), 6, []⟩, ⟨(some 36), (.some (33, true)), (.load 1 false (.t 35)), 7, []⟩, ⟨(some 37), (.some (33, true)), (.call 62 [(.t 34), (.t 36)]), 8, []⟩, ⟨(some 38), (.some (33, true)), (.un .not (.t 37)), 9, []⟩, ⟨(some 39), .none, (.pick (.t 33) (.t 38) (.c (.bool false))), 10, []⟩]) (.cond (.t 39) (.reg true [⟨(some 40), .none, (.mov (.t 9)), 0, []⟩, ⟨(some 41), .none, (.call 86 [(.t 40)]), 1, [0]⟩, ⟨(some 42), .none, (.fadr 1 (.t 11)), 2, []⟩, ⟨(some 43), .none, (.load 1 false (.t 42)), 3, [2]⟩, ⟨(some 44), .none, (.mkV 1 1 [(.int .i64 0)] [(0, (.t 43))]), 4, [3, 2]⟩, ⟨(some 45), .none, (.app 1 8 (.t 41) (.t 44)), 5, [1, 0, 4, 3, 2]⟩, ⟨(some 9), .none, (.mov (.t 45)), 6, [5, 1, 0, 4, 3, 2]⟩]) .skip)))) (.reg false [⟨(some 46), .none, (.bin .add (.t 25) (.c (.int .i64 1))), 0, []⟩, ⟨(some 25), .none, (.mov (.t 46)), 1, []⟩]))))))) (.reg false [⟨(some 47), .none, (.mov (.t 9)), 0, []⟩, ⟨(some 7), .none, (.mov (.t 47)), 1, []⟩]))))) (.reg false [⟨(some 16), .none, (.mov (.t 8)), 0, []⟩, ⟨(some 17), .none, (.bin .add (.t 16) (.c (.int .i64 1))), 1, []⟩, ⟨(some 8), .none, (.mov (.t 17)), 2, []⟩])))))) (.seq (.reg false [⟨(some 6), .none, (.mov (.c (.int .i64 (-1)))), 0, []⟩]) .ret)))), [(.t 6)]⟩
theorem k64 : EE.fns 64 = some c64 := by kernel_rfl
def c65 : CF := ⟨46, (.seq (.reg false [⟨(some 6), .none, (.mov (.c (.slice .none 0 0))), 0, []⟩]) (.seq (.reg false [⟨(some 10), .none, (.mov (.t 1)), 0, []⟩, ⟨(some 11), .none, (.mkO 1 1 [(.int .i64 0)] [(0, (.t 10))]), 1, []⟩, ⟨(some 7), .none, (.mov (.t 11)), 2, []⟩]) (.seq (.seq (.reg false [⟨(some 8), .none, (.mov (.c (.int .i64 0))), 0, []⟩]) (.block 0 (.loop (.seq (.seq (.reg false [⟨(some 12), .none, (.mov (.t 8)), 0, []⟩, ⟨(some 13), .none, (.mov (.t 7)), 1, []⟩, ⟨(some 14), .none, (.lenS (.t 13)), 2, []⟩, ⟨(some 15), .none, (.bin .lss (.t 12) (.t 14)), 3, []⟩]) (.cond (.t 15) .skip (.exit 0))) (.seq (.block 1 (.seq (.reg false [⟨(some 18), .none, (.mov (.c (.int .i64 0))), 0, []⟩]) (.block 2 (.loop (.seq (.reg false [⟨(some 19), .none, (.bin .lss (.t 18) (.c (.int .i64 8))), 0, []⟩]) (.seq (.cond (.t 19) .skip (.exit 2)) (.seq (.block 3 (.seq (.reg false [⟨(some 20), .none, (.mov (.t 18)), 0, []⟩, ⟨(some 9), .none, (.mov (.t 20)), 1, []⟩]) (.seq (.reg false [⟨(some 21), .none, (.mov (.t 9)), 0, []⟩, ⟨(some 22), .none, (.mov (.t 2)), 1, []⟩, ⟨(some 23), .none, (.bin .neq (.t 21) (.t 22)), 2, []⟩, ⟨(some 24), .none, (.mov (.t 23)), 3, []⟩, ⟨(some 25), (.some (24, true)), (.mov (.t 0)), 4, []⟩, ⟨(some 26), (.some (24, true)), (.mov (.t 7)), 5, []⟩, ⟨(some 27), (.some (24, true)), (.mov (.t 8)), 6, []⟩, ⟨(some 28), (.some (24, true)), (.iadr 1 (.t 26) (.t 27)), 7, []⟩, ⟨(some 29), (.some (24, true)), (.load 1 false (.t 28)), 8, []⟩, ⟨(some 30), (.some (24, true)), (.mov (.t 9)), 9, []⟩, ⟨(some 31), (.some (24, true)), (.build [(.int .i64 0), (.int .i64 0)] [(0, (1, (.t 29))), (1, (1, (.t 30)))]), 10, []⟩, ⟨(some 32), (.some (24, true)), (.call 59 [(.t 25), (.t 31)]), 11, []⟩, ⟨(some 33), .none, (.pick (.t 24) (.t 32) (.c (.bool false))), 12, []⟩, ⟨(some 34), .none, (.mov (.t 33)), 13, []⟩, ⟨(some 35), (.some (34, true)), (.mov (.t 7)), 14, []⟩, ⟨(some 36), (.some (34, true)), (.mov (.t 9)), 15, []⟩, ⟨(some 37), (.some (34, true)), (.call 62 [(.t 35), (.t 36)]), 16, []⟩, ⟨(some 38), (.some (34, true)), (.un .not (.t 37)), 17, []⟩, ⟨(some 39), .none, (.pick (.t 34) (.t 38) (.c (.bool false))), 18, []⟩]) (.cond (.t 39) (.reg false [⟨(some 40), .none, (.mov (.t 7)), 0, []⟩, ⟨(some 41), .none, (.mov (.t 9)), 1, []⟩, ⟨(some 42), .none, (.mkV 1 1 [(.int .i64 0)] [(0, (.t 41))]), 2, []⟩, ⟨(some 43), .none, (.app 1 8 (.t 40) (.t 42)), 3, []⟩, ⟨(some 7), .none, (.mov (.t 43)), 4, []⟩]) .skip)))) (.reg false [⟨(some 44), .none, (.bin .add (.t 18) (.c (.int .i64 1))), 0, []⟩, ⟨(some 18), .none, (.mov (.t 44)), 1, []⟩])))))))) (.reg false [⟨(some 16), .none, (.mov (.t 8)), 0, []⟩, ⟨(some 17), .none, (.bin .add (.t 16) (.c (.int .i64 1))), 1, []⟩, ⟨(some 8), .none, (.mov (.t 17)), 2, []⟩])))))) (.seq (.reg false [⟨(some 45), .none, (.mov (.t 7)), 0, []⟩, ⟨(some 6), .none, (.mov (.t 45)), 1, []⟩]) .ret)))), [(.t 6)]⟩
theorem k65 : EE.fns 65 = some c65 := by kernel_rfl
end Go.Proofs.Ytdplmjlbkaipiaa.Ev
