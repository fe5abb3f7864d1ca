/- What the small machine's values and rows stand for in Go's memory, and that it stays so while memory grows. -/
import Derived.Test.YtdplmjlbkaipiaaE2
import Derived.Below
namespace Go.Proofs.Ytdplmjlbkaipiaa.Ev
set_option linter.all false
open Go

/-- Where a row lies: its block, the place of its first cell there, the block's length. -/
structure Loc where
  b : Nat
  sh : Nat
  sz : Nat

abbrev Inj := Nat → Option Loc

inductive VRel (J : Inj) (H : Hp) : Value → Value → Prop
  | int (k : IntKind) (n : Int) : VRel J H (.int k n) (.int k n)
  | bool (b : Bool) : VRel J H (.bool b) (.bool b)
  | str (s : ByteArray) : VRel J H (.string s) (.string s)
  | nptr : VRel J H (.pointer none) (.pointer none)
  | nsl : VRel J H (.slice none 0 0) (.slice none 0 0)
  | nfn : VRel J H .nilFunc .nilFunc
  | ptr (id off gen : Nat) (o : List Value) (a : Addr) (h : H[id]? = some o) (hg : gen ≤ o.length)
      (hv : gen = o.length → ∃ l, J id = some l ∧ a = ⟨l.b, l.sh + off, none⟩) : VRel J H (.pointer (some ⟨id, off, some gen⟩)) (.pointer (some a))
  | sl (id off e len cap : Nat) (o : List Value) (a : Addr) (ccap : Nat) (h : H[id]? = some o) (hg : off + cap ≤ o.length) (hl : len ≤ ccap) (hc : cap ≤ ccap * e)
      (hv : off + cap = o.length → ∃ l, J id = some l ∧ ((len = 0 ∧ ccap = 0) ∨ (a = ⟨l.b, l.sh + off, none⟩ ∧ l.sh + off + ccap * e ≤ l.sz))) :
      VRel J H (.slice (some ⟨id, off, some e⟩) len cap) (.slice (some a) len ccap)
  | agg (cs ds : Array Value) (hs : cs.size = ds.size) (h1 : ∀ i : Nat, ∀ x, cs[i]? = some x → x.oneCell' = true)
      (h : ∀ i : Nat, ∀ x y, cs[i]? = some x → ds[i]? = some y → VRel J H x y) : VRel J H (.agg cs) (.agg ds)
  | tup (cs ds : Array Value) (hs : cs.size = ds.size) (h : ∀ i : Nat, ∀ x y, cs[i]? = some x → ds[i]? = some y → VRel J H x y) : VRel J H (.tuple cs) (.tuple ds)
  | fn (f : Nat) (cs ds : Array Value) (hs : cs.size = ds.size) (h : ∀ i : Nat, ∀ x y, cs[i]? = some x → ds[i]? = some y → VRel J H x y) :
      VRel J H (.func (.func f) #[] cs) (.func (.func f) #[] ds)

theorem VRel.one {J : Inj} {H : Hp} {v c : Value} (h : VRel J H v c) : v.oneCell' = c.oneCell' := by cases h <;> rfl

theorem VRel.scal {J : Inj} {H : Hp} {v : Value} (h : scal v = true) : VRel J H v v := by
  unfold Ev.scal at h
  split at h <;> first | exact .int _ _ | exact .bool _ | exact .str _ | exact .nptr | exact .nsl | exact .nfn | cases h

theorem VRel.of_scal {J : Inj} {H : Hp} {v c : Value} (hr : VRel J H v c) (h : Ev.scal v = true) : c = v := by
  cases hr <;> first | rfl | (simp [Ev.scal] at h)

theorem scal_one {v : Value} (h : scal v = true) : v.oneCell' = true := by
  unfold Ev.scal at h
  split at h <;> first | rfl | cases h

/-- Rows may only grow; one that hasn't grown lies where it lay. -/
def Keep (J : Inj) (H : Hp) (J' : Inj) (H' : Hp) : Prop :=
  ∀ (id : Nat) (o : List Value), H[id]? = some o → ∃ o', H'[id]? = some o' ∧ (o.length < o'.length ∨ (o'.length = o.length ∧ J' id = J id))

theorem Keep.refl (J : Inj) (H : Hp) : Keep J H J H := fun _ o h => ⟨o, h, .inr ⟨rfl, rfl⟩⟩

theorem Keep.trans {J J' J'' : Inj} {H H' H'' : Hp} (h : Keep J H J' H') (k : Keep J' H' J'' H'') : Keep J H J'' H'' := fun id o ho => by
  obtain ⟨o', h1, h2⟩ := h id o ho
  obtain ⟨o'', k1, k2⟩ := k id o' h1
  refine ⟨o'', k1, ?_⟩
  rcases h2 with h2 | ⟨h2, h3⟩ <;> rcases k2 with k2 | ⟨k2, k3⟩
  · exact .inl (by omega)
  · exact .inl (by omega)
  · exact .inl (by omega)
  · exact .inr ⟨by omega, k3.trans h3⟩

theorem VRel.keep {J J' : Inj} {H H' : Hp} (hk : Keep J H J' H') {v c : Value} (h : VRel J H v c) : VRel J' H' v c := by
  induction h with
  | int k n => exact .int k n
  | bool b => exact .bool b
  | str s => exact .str s
  | nptr => exact .nptr
  | nsl => exact .nsl
  | nfn => exact .nfn
  | ptr id off gen o a h hg hv =>
    obtain ⟨o', h1, h2⟩ := hk id o h
    refine .ptr id off gen o' a h1 (by omega) fun e => ?_
    rcases h2 with h2 | ⟨h2, h3⟩
    · omega
    · obtain ⟨l, hl, ha⟩ := hv (by omega)
      exact ⟨l, h3.trans hl, ha⟩
  | sl id off e len cap o a ccap h hg hl hc hv =>
    obtain ⟨o', h1, h2⟩ := hk id o h
    refine .sl id off e len cap o' a ccap h1 (by omega) hl hc fun e => ?_
    rcases h2 with h2 | ⟨h2, h3⟩
    · omega
    · obtain ⟨l, hl, ha⟩ := hv (by omega)
      exact ⟨l, h3.trans hl, ha⟩
  | agg cs ds hs h1 h ih => exact .agg cs ds hs h1 ih
  | tup cs ds hs h ih => exact .tup cs ds hs ih
  | fn f cs ds hs h ih => exact .fn f cs ds hs ih

/-- Lists of values, one by one. -/
def LRel (J : Inj) (H : Hp) (cs ds : List Value) : Prop :=
  cs.length = ds.length ∧ ∀ (i : Nat) (x y : Value), cs[i]? = some x → ds[i]? = some y → VRel J H x y

theorem LRel.keep {J J' : Inj} {H H' : Hp} (hk : Keep J H J' H') {cs ds : List Value} (h : LRel J H cs ds) : LRel J' H' cs ds :=
  ⟨h.1, fun i x y hx hy => (h.2 i x y hx hy).keep hk⟩

theorem LRel.nil {J : Inj} {H : Hp} : LRel J H [] [] := ⟨rfl, fun i x y hx => by simp at hx⟩

theorem LRel.cons {J : Inj} {H : Hp} {v c : Value} {cs ds : List Value} (h : VRel J H v c) (hs : LRel J H cs ds) : LRel J H (v :: cs) (c :: ds) := by
  refine ⟨by simp [hs.1], fun i x y hx hy => ?_⟩
  cases i with
  | zero => simp at hx hy; subst hx; subst hy; exact h
  | succ i => simp at hx hy; exact hs.2 i x y hx hy

theorem LRel.get {J : Inj} {H : Hp} {cs ds : List Value} (h : LRel J H cs ds) {i : Nat} {x : Value} (hx : cs[i]? = some x) : ∃ y, ds[i]? = some y ∧ VRel J H x y := by
  have hi : i < cs.length := by
    have := (List.getElem?_eq_some_iff.1 hx).1
    exact this
  have hd : i < ds.length := by rw [← h.1]; exact hi
  exact ⟨ds[i], List.getElem?_eq_getElem hd, h.2 i x _ hx (List.getElem?_eq_getElem hd)⟩

theorem LRel.append {J : Inj} {H : Hp} {cs ds cs' ds' : List Value} (h : LRel J H cs ds) (h' : LRel J H cs' ds') : LRel J H (cs ++ cs') (ds ++ ds') := by
  refine ⟨by simp [h.1, h'.1], fun i x y hx hy => ?_⟩
  by_cases hi : i < cs.length
  · rw [List.getElem?_append_left hi] at hx
    rw [List.getElem?_append_left (by rw [← h.1]; exact hi)] at hy
    exact h.2 i x y hx hy
  · rw [List.getElem?_append_right (by omega)] at hx
    rw [List.getElem?_append_right (by have := h.1; omega)] at hy
    rw [h.1] at hx
    exact h'.2 _ x y hx hy

theorem LRel.drop {J : Inj} {H : Hp} {cs ds : List Value} (h : LRel J H cs ds) (n : Nat) : LRel J H (cs.drop n) (ds.drop n) :=
  ⟨by simp [h.1], fun i x y hx hy => by rw [List.getElem?_drop] at hx hy; exact h.2 _ x y hx hy⟩

theorem LRel.take {J : Inj} {H : Hp} {cs ds : List Value} (h : LRel J H cs ds) (n : Nat) : LRel J H (cs.take n) (ds.take n) :=
  ⟨by simp [h.1], fun i x y hx hy => by
    rw [List.getElem?_take] at hx hy
    by_cases hi : i < n
    · rw [if_pos hi] at hx hy
      exact h.2 i x y hx hy
    · rw [if_neg hi] at hx
      cases hx⟩

theorem LRel.set {J : Inj} {H : Hp} {cs ds : List Value} (h : LRel J H cs ds) {v c : Value} (hv : VRel J H v c) (n : Nat) : LRel J H (cs.set n v) (ds.set n c) :=
  ⟨by simp [h.1], fun i x y hx hy => by
    rw [List.getElem?_set] at hx hy
    by_cases hi : n = i
    · subst hi
      by_cases hn : n < cs.length
      · rw [if_pos rfl, if_pos hn] at hx
        rw [if_pos rfl, if_pos (by rw [← h.1]; exact hn)] at hy
        cases hx; cases hy; exact hv
      · rw [if_pos rfl, if_neg hn] at hx
        cases hx
    · rw [if_neg hi] at hx hy
      exact h.2 i x y hx hy⟩

theorem spl_length : ∀ (vs : List Value) (o : List Value) (i : Nat), (spl o i vs).length = o.length
  | [], _, _ => rfl
  | v :: vs, o, i => by rw [spl, spl_length vs]; simp

theorem LRel.spl {J : Inj} {H : Hp} : ∀ {vs ws : List Value} {cs ds : List Value}, LRel J H vs ws → LRel J H cs ds → ∀ i, LRel J H (Ev.spl cs i vs) (Ev.spl ds i ws)
  | [], [], _, _, _, h, _ => h
  | [], _ :: _, _, _, hv, _, _ => by have := hv.1; simp at this
  | _ :: _, [], _, _, hv, _, _ => by have := hv.1; simp at this
  | v :: vs, w :: ws, cs, ds, hv, h, i => by
    have hvw : VRel J H v w := hv.2 0 v w (by simp) (by simp)
    have hvs : LRel J H vs ws := ⟨by have := hv.1; simpa using this, fun j x y hx hy => hv.2 (j + 1) x y (by simpa using hx) (by simpa using hy)⟩
    exact LRel.spl hvs (h.set hvw i) (i + 1)

theorem LRel.scal {J : Inj} {H : Hp} {cs : List Value} (h : cs.all Ev.scal = true) : LRel J H cs cs :=
  ⟨rfl, fun i x y hx hy => by
    have : x = y := by rw [hx] at hy; exact Option.some.inj hy
    subst this
    exact VRel.scal (List.all_eq_true.1 h x (List.mem_of_getElem? hx))⟩

theorem VRel.cells {J : Inj} {H : Hp} {v c : Value} (h : VRel J H v c) : LRel J H (vcells v) (c.cells.toList) := by
  have single : ∀ {v c : Value}, VRel J H v c → LRel J H [v] [c] := fun h => .cons h .nil
  cases h with
  | agg cs ds hs h1 h =>
    refine ⟨by simpa [vcells, Value.cells] using hs, fun i x y hx hy => h i x y ?_ ?_⟩
    · simpa [vcells] using hx
    · simpa [Value.cells] using hy
  | int k n => exact single (.int k n)
  | bool b => exact single (.bool b)
  | str s => exact single (.str s)
  | nptr => exact single .nptr
  | nsl => exact single .nsl
  | nfn => exact single .nfn
  | ptr id off gen o a h hg hv => exact single (.ptr id off gen o a h hg hv)
  | sl id off e len cap o a ccap h hg hl hc hv => exact single (.sl id off e len cap o a ccap h hg hl hc hv)
  | tup cs ds hs h => exact single (.tup cs ds hs h)
  | fn f cs ds hs h => exact single (.fn f cs ds hs h)

/-- The rows of the machine lie in Go's memory: those from B on are its own. -/
structure WRel (B : Nat) (J : Inj) (H : Hp) (w : World) : Prop where
  row : ∀ (id : Nat) (o : List Value), H[id]? = some o → ∃ (l : Loc) (ds : Array Value) (e : TypeId) (lo hi : Nat), J id = some l ∧ w.heap[l.b]? = some (.cells ds e (lo, hi)) ∧ ds.size = l.sz ∧
    l.sh + o.length ≤ l.sz ∧ (∀ (i : Nat) (v : Value), o[i]? = some v → v.oneCell' = true ∧ ∃ d, ds[l.sh + i]? = some d ∧ VRel J H v d) ∧
    (B ≤ id → ∀ i, l.sh ≤ i → i < l.sz → ¬ (lo ≤ i ∧ i < hi))
  uni : ∀ id id' l l', id ≠ id' → B ≤ id → J id = some l → J id' = some l' → l.b ≠ l'.b
  dom : ∀ id, H.length ≤ id → J id = none

/-- From one state of memory to a later one: what lay below N and is none of the machine's own is as it was. -/
structure Tr (B N : Nat) (J : Inj) (H : Hp) (w : World) (J' : Inj) (H' : Hp) (w' : World) : Prop where
  keep : Keep J H J' H'
  frame : ∀ b, b < N → (∀ id l, J id = some l → B ≤ id → l.b ≠ b) → w'.heap[b]? = w.heap[b]?
  img : ∀ id l', J' id = some l' → (∃ l, J id = some l ∧ l.b = l'.b) ∨ N ≤ l'.b
  grow : w.heap.size ≤ w'.heap.size
  os : w'.os = w.os
  tape : w'.tape = w.tape
  output : w'.output = w.output

theorem Tr.refl (B N : Nat) (J : Inj) (H : Hp) (w : World) : Tr B N J H w J H w :=
  ⟨.refl _ _, fun _ _ _ => rfl, fun _ l' h => .inl ⟨l', h, rfl⟩, Nat.le_refl _, rfl, rfl, rfl⟩

theorem Tr.trans {B N : Nat} {J J' J'' : Inj} {H H' H'' : Hp} {w w' w'' : World} (h : Tr B N J H w J' H' w') (k : Tr B N J' H' w' J'' H'' w'') : Tr B N J H w J'' H'' w'' := by
  refine ⟨h.keep.trans k.keep, fun b hb hn => ?_, fun id l'' hl => ?_, Nat.le_trans h.grow k.grow, k.os.trans h.os, k.tape.trans h.tape, k.output.trans h.output⟩
  · rw [k.frame b hb ?_, h.frame b hb hn]
    intro id l' hl hB he
    rcases h.img id l' hl with ⟨l, hl0, hb0⟩ | hN
    · exact hn id l hl0 hB (hb0.trans he)
    · omega
  · rcases k.img id l'' hl with ⟨l', hl', hb'⟩ | hN
    · rcases h.img id l' hl' with ⟨l, hl0, hb0⟩ | hN
      · exact .inl ⟨l, hl0, hb0.trans hb'⟩
      · exact .inr (by omega)
    · exact .inr hN

theorem Tr.mono {B N N' : Nat} {J J' : Inj} {H H' : Hp} {w w' : World} (h : Tr B N J H w J' H' w') (hN : N' ≤ N) : Tr B N' J H w J' H' w' :=
  ⟨h.keep, fun b hb hn => h.frame b (by omega) hn, fun id l' hl => (h.img id l' hl).imp (fun x => x) (fun x => by omega), h.grow, h.os, h.tape, h.output⟩

/-- What a slot of the frame stands for. -/
def FOk (J : Inj) (H : Hp) (w : World) (ρ : Nat → FV) (tmps : Array Value) (own : Nat → Option Nat) (t : Nat) : Prop :=
  match ρ t with
  | .val v => VRel J H v (tmps.getD t undef)
  | .bx _ cs => ∃ b ds e, own t = some b ∧ tmps.getD t undef = .pointer (some ⟨b, 0, none⟩) ∧ w.heap[b]? = some (.cells ds e (0, 0)) ∧ LRel J H cs ds.toList ∧ ∀ v ∈ cs, v.oneCell' = true
  | .vp t' g off => ∀ cs, ρ t' = .bx g cs → ∃ b, own t' = some b ∧ tmps.getD t undef = .pointer (some ⟨b, off, none⟩)
  | .vs n cs => ∃ b ds e, own t = some b ∧ tmps.getD t undef = .slice (some ⟨b, 0, none⟩) n n ∧ w.heap[b]? = some (.cells ds e (0, 0)) ∧ LRel J H cs ds.toList ∧ ∀ v ∈ cs, v.oneCell' = true
  | .junk => True

structure FRel (N : Nat) (J : Inj) (H : Hp) (w : World) (ρ : Nat → FV) (gn : Nat) (tmps : Array Value) (own : Nat → Option Nat) : Prop where
  ok : ∀ t, FOk J H w ρ tmps own t
  inj : ∀ t t' b, own t = some b → own t' = some b → t = t'
  out : ∀ t b, own t = some b → N ≤ b ∧ b < w.heap.size ∧ ∀ id l, J id = some l → l.b ≠ b
  gbx : ∀ t g cs, ρ t = .bx g cs → g < gn
  gvp : ∀ t t' g off, ρ t = .vp t' g off → g < gn

structure Rel (B N nt : Nat) (J : Inj) (s : St) (a : Act) (w : World) : Prop where
  wr : WRel B J s.H w
  fr : ∃ own, FRel N J s.H w s.ρ s.gn a.tmps own
  df : a.defers = []
  sz : a.tmps.size = nt
  hN : N ≤ w.heap.size

/-- Memory goes on, the frame's own boxes aside: the frame stays right. -/
theorem FRel.move {B N : Nat} {J J' : Inj} {H H' : Hp} {w w' : World} {ρ : Nat → FV} {gn : Nat} {tmps : Array Value} {own : Nat → Option Nat}
    (h : FRel N J H w ρ gn tmps own) (t : Tr B w.heap.size J H w J' H' w') : FRel N J' H' w' ρ gn tmps own := by
  have hb : ∀ x b, own x = some b → w'.heap[b]? = w.heap[b]? := fun x b hx => by
    obtain ⟨_, h2, h3⟩ := h.out x b hx
    exact t.frame b h2 fun id l hl _ => h3 id l hl
  refine ⟨fun x => ?_, h.inj, fun x b hx => ?_, h.gbx, h.gvp⟩
  · have hx := h.ok x
    unfold FOk at hx ⊢
    split
    · rename_i v hv; simp only [hv] at hx; exact hx.keep t.keep
    · rename_i g cs hv
      simp only [hv] at hx
      obtain ⟨b, ds, e, h1, h2, h3, h4, h5⟩ := hx
      exact ⟨b, ds, e, h1, h2, by rw [hb x b h1]; exact h3, h4.keep t.keep, h5⟩
    · rename_i t' g off hv; simp only [hv] at hx; exact hx
    · rename_i n cs hv
      simp only [hv] at hx
      obtain ⟨b, ds, e, h1, h2, h3, h4, h5⟩ := hx
      exact ⟨b, ds, e, h1, h2, by rw [hb x b h1]; exact h3, h4.keep t.keep, h5⟩
    · trivial
  · obtain ⟨h1, h2, h3⟩ := h.out x b hx
    refine ⟨h1, Nat.lt_of_lt_of_le h2 t.grow, fun id l hl he => ?_⟩
    rcases t.img id l hl with ⟨l0, hl0, hb0⟩ | hN
    · exact h3 id l0 hl0 (hb0.trans he)
    · omega

theorem Rel.move {B N nt : Nat} {J J' : Inj} {s : St} {H' : Hp} {a : Act} {w w' : World} (h : Rel B N nt J s a w) (t : Tr B w.heap.size J s.H w J' H' w') (hw : WRel B J' H' w') :
    Rel B N nt J' { s with H := H' } a w' :=
  ⟨hw, let ⟨own, ho⟩ := h.fr; ⟨own, ho.move t⟩, h.df, h.sz, Nat.le_trans h.hN t.grow⟩

theorem upd_same (ρ : Nat → FV) (d : Nat) (v : FV) : upd ρ (some d) v d = v := by simp [upd]
theorem upd_ne (ρ : Nat → FV) {d t : Nat} (v : FV) (h : t ≠ d) : upd ρ (some d) v t = ρ t := by simp [upd, h]

theorem getD_set_same (a : Array Value) (d : Nat) (v : Value) (h : d < a.size) : (a.setIfInBounds d v).getD d undef = v := by
  simp [Array.getD, h]
theorem getD_set_ne (a : Array Value) {d t : Nat} (v : Value) (h : t ≠ d) : (a.setIfInBounds d v).getD t undef = a.getD t undef := by
  simp only [Array.getD_eq_getD_getElem?]
  rw [Array.getElem?_setIfInBounds_ne (Ne.symm h)]

/-- A slot is written: the general form. -/
theorem FRel.put {N : Nat} {J : Inj} {H : Hp} {w : World} {ρ : Nat → FV} {gn gn' : Nat} {tmps : Array Value} {own : Nat → Option Nat} (h : FRel N J H w ρ gn tmps own) (hg : gn ≤ gn')
    {d : Nat} (hd : d < tmps.size) {f : FV} {v : Value} {ob : Option Nat}
    (hf : FOk J H w (upd ρ (some d) f) (tmps.setIfInBounds d v) (fun t => if t = d then ob else own t) d)
    (hob : ∀ b, ob = some b → (N ≤ b ∧ b < w.heap.size ∧ ∀ id l, J id = some l → l.b ≠ b) ∧ ∀ t, own t ≠ some b)
    (hgb : ∀ g cs, f = .bx g cs → g < gn' ∧ gn ≤ g) (hgv : ∀ t g off, f = .vp t g off → g < gn') :
    FRel N J H w (upd ρ (some d) f) gn' (tmps.setIfInBounds d v) (fun t => if t = d then ob else own t) := by
  refine ⟨fun t => ?_, fun t t' b ht ht' => ?_, fun t b ht => ?_, fun t g cs ht => ?_, fun t t' g off ht => ?_⟩
  · by_cases e : t = d
    · subst e; exact hf
    · have hx := h.ok t
      unfold FOk at hx ⊢
      rw [upd_ne _ _ e, getD_set_ne _ _ e]
      simp only [if_neg e]
      split
      · rename_i u hu; simp only [hu] at hx; exact hx
      · rename_i g cs hu; simp only [hu] at hx; exact hx
      · rename_i t' g off hu
        simp only [hu] at hx
        intro cs hcs
        by_cases e' : t' = d
        · subst e'
          rw [upd_same] at hcs
          have h1 := hgb g cs hcs
          have h2 := h.gvp t t' g off hu
          omega
        · rw [upd_ne _ _ e'] at hcs
          rw [if_neg e']
          exact hx cs hcs
      · rename_i n cs hu; simp only [hu] at hx; exact hx
      · trivial
  · by_cases e : t = d <;> by_cases e' : t' = d
    · exact e.trans e'.symm
    · rw [if_pos e] at ht; rw [if_neg e'] at ht'
      exact absurd ht' ((hob b ht).2 t')
    · rw [if_neg e] at ht; rw [if_pos e'] at ht'
      exact absurd ht ((hob b ht').2 t)
    · rw [if_neg e] at ht; rw [if_neg e'] at ht'
      exact h.inj t t' b ht ht'
  · by_cases e : t = d
    · rw [if_pos e] at ht; exact (hob b ht).1
    · rw [if_neg e] at ht; exact h.out t b ht
  · by_cases e : t = d
    · subst e; rw [upd_same] at ht; exact (hgb g cs ht).1
    · rw [upd_ne _ _ e] at ht; have := h.gbx t g cs ht; omega
  · by_cases e : t = d
    · subst e; rw [upd_same] at ht; exact hgv t' g off ht
    · rw [upd_ne _ _ e] at ht; have := h.gvp t t' g off ht; omega

/-- The frame behind an operation that gives a value. -/
theorem Rel.put_val {B N nt : Nat} {J : Inj} {s : St} {a : Act} {w : World} (h : Rel B N nt J s a w) {dst : Option Nat} (hd : ∀ d, dst = some d → d < nt) {f v : Value} (hv : VRel J s.H f v) :
    Rel B N nt J { s with ρ := upd s.ρ dst (.val f) } (a.put dst v) w := by
  cases dst with
  | none => exact h
  | some d =>
    obtain ⟨own, ho⟩ := h.fr
    have hlt : d < a.tmps.size := by rw [h.sz]; exact hd d rfl
    refine ⟨h.wr, ⟨_, ho.put (ob := none) (Nat.le_refl _) hlt (f := .val f) (v := v) ?_ (fun b hb => by cases hb) (fun g cs e => by cases e) (fun t g off e => by cases e)⟩, h.df, ?_, h.hN⟩
    · unfold FOk
      rw [upd_same, getD_set_same _ _ _ hlt]
      exact hv
    · simp [Act.put, h.sz]

theorem Rel.put_junk {B N nt : Nat} {J : Inj} {s : St} {a : Act} {w : World} (h : Rel B N nt J s a w) {dst : Option Nat} (hd : ∀ d, dst = some d → d < nt) (v : Value) :
    Rel B N nt J { s with ρ := upd s.ρ dst .junk } (a.put dst v) w := by
  cases dst with
  | none => exact h
  | some d =>
    obtain ⟨own, ho⟩ := h.fr
    have hlt : d < a.tmps.size := by rw [h.sz]; exact hd d rfl
    refine ⟨h.wr, ⟨_, ho.put (ob := none) (Nat.le_refl _) hlt (f := .junk) (v := v) ?_ (fun b hb => by cases hb) (fun g cs e => by cases e) (fun t g off e => by cases e)⟩, h.df, ?_, h.hN⟩
    · unfold FOk
      rw [upd_same]
      trivial
    · simp [Act.put, h.sz]

/-- Or a place in a box of the frame. -/
theorem Rel.put_vp {B N nt : Nat} {J : Inj} {s : St} {a : Act} {w : World} (h : Rel B N nt J s a w) {dst : Option Nat} (hd : ∀ d, dst = some d → d < nt) {t g off : Nat} {v : Value} (hg : g < s.gn)
    (hv : ∀ own, FRel N J s.H w s.ρ s.gn a.tmps own → ∀ cs, s.ρ t = .bx g cs → ∃ b, own t = some b ∧ v = .pointer (some ⟨b, off, none⟩)) :
    Rel B N nt J { s with ρ := upd s.ρ dst (.vp t g off) } (a.put dst v) w := by
  cases dst with
  | none => exact h
  | some d =>
    obtain ⟨own, ho⟩ := h.fr
    have hlt : d < a.tmps.size := by rw [h.sz]; exact hd d rfl
    refine ⟨h.wr, ⟨_, ho.put (ob := none) (Nat.le_refl _) hlt (f := .vp t g off) (v := v) ?_ (fun b hb => by cases hb) (fun g cs e => by cases e) (fun t' g' off' e => by cases e; exact hg)⟩, h.df, ?_, h.hN⟩
    · unfold FOk
      rw [upd_same, getD_set_same _ _ _ hlt]
      intro cs hcs
      by_cases e : t = d
      · subst e; rw [upd_same] at hcs; cases hcs
      · rw [upd_ne _ _ e] at hcs
        simp only [if_neg e]
        exact hv own ho cs hcs
    · simp [Act.put, h.sz]

theorem alloc_size (w : World) (o : Obj) : (w.alloc o).heap.size = w.heap.size + 1 := by
  show (w.heap.push o).size = _
  simp
theorem alloc_old (w : World) (o : Obj) {b : Nat} (hb : b < w.heap.size) : (w.alloc o).heap[b]? = w.heap[b]? := RowKit.Below.heap_alloc w o b hb
theorem alloc_new (w : World) (o : Obj) : (w.alloc o).heap[w.heap.size]? = some o := by
  show (w.heap.push o)[w.heap.size]? = _
  simp

/-- A new block that is the frame's own. -/
theorem Tr.alloc {B : Nat} (J : Inj) (H : Hp) (w : World) (o : Obj) : Tr B w.heap.size J H w J H (w.alloc o) :=
  ⟨.refl _ _, fun b hb _ => alloc_old w o hb, fun _ l' h => .inl ⟨l', h, rfl⟩, by rw [alloc_size]; omega, rfl, rfl, rfl⟩

theorem Tr.drew {B : Nat} (J : Inj) (H : Hp) (w : World) : Tr B w.heap.size J H w J H w.drew :=
  ⟨.refl _ _, fun b hb _ => rfl, fun _ l' h => .inl ⟨l', h, rfl⟩, Nat.le_refl _, rfl, rfl, rfl⟩

theorem WRel.lt {B : Nat} {J : Inj} {H : Hp} {w : World} (h : WRel B J H w) {id : Nat} {l : Loc} (hl : J id = some l) : l.b < w.heap.size := by
  have hid : id < H.length := by
    rcases Nat.lt_or_ge id H.length with h1 | h1
    · exact h1
    · rw [h.dom id h1] at hl; cases hl
  obtain ⟨l', ds, e, lo, hi, h1, h2, _⟩ := h.row id H[id] (List.getElem?_eq_getElem hid)
  rw [h1] at hl
  cases hl
  exact (Array.getElem?_eq_some_iff.1 h2).1

theorem WRel.same {B : Nat} {J : Inj} {H : Hp} {w w' : World} (h : WRel B J H w) (hh : ∀ b, b < w.heap.size → w'.heap[b]? = w.heap[b]?) : WRel B J H w' := by
  refine ⟨fun id o ho => ?_, h.uni, h.dom⟩
  obtain ⟨l, ds, e, lo, hi, h1, h2, h3⟩ := h.row id o ho
  exact ⟨l, ds, e, lo, hi, h1, by rw [hh l.b (h.lt h1)]; exact h2, h3⟩

theorem WRel.alloc {B : Nat} {J : Inj} {H : Hp} {w : World} (h : WRel B J H w) (o : Obj) : WRel B J H (w.alloc o) :=
  h.same fun b hb => alloc_old w o hb

theorem Rel.drew {B N nt : Nat} {J : Inj} {s : St} {a : Act} {w : World} (h : Rel B N nt J s a w) : Rel B N nt J s a w.drew :=
  h.move (.drew J s.H w) (h.wr.same fun _ _ => rfl)

theorem Rel.put_bx {B N nt : Nat} {J : Inj} {s : St} {a : Act} {w : World} (h : Rel B N nt J s a w) {d : Nat} (hd : d < nt) {cs : List Value} {ds : Array Value} (e : TypeId) (hv : LRel J s.H cs ds.toList) (h1 : ∀ v ∈ cs, v.oneCell' = true) :
    Rel B N nt J { s with ρ := upd s.ρ (some d) (.bx s.gn cs), gn := s.gn + 1 } (a.put (some d) (.pointer (some ⟨w.heap.size, 0, none⟩))) (w.alloc (.cells ds e)) := by
  have hm := h.move (.alloc J s.H w (.cells ds e)) (h.wr.alloc _)
  obtain ⟨own, ho⟩ := h.fr
  have ho' := ho.move (B := B) (.alloc J s.H w (.cells ds e))
  have hlt : d < a.tmps.size := by rw [h.sz]; exact hd
  refine ⟨hm.wr, ⟨_, ho'.put (gn' := s.gn + 1) (ob := some w.heap.size) (by omega) hlt (f := .bx s.gn cs) (v := .pointer (some ⟨w.heap.size, 0, none⟩)) ?_ (fun b hb => ?_) (fun g cs' e => by cases e; omega) (fun t g off e => by cases e)⟩, h.df, ?_, hm.hN⟩
  · unfold FOk
    rw [upd_same, getD_set_same _ _ _ hlt]
    exact ⟨_, ds, e, by simp, rfl, alloc_new _ _, hv, h1⟩
  · cases hb
    refine ⟨⟨h.hN, by rw [alloc_size]; omega, fun id l hl he => ?_⟩, fun t ht => ?_⟩
    · have := h.wr.lt hl; omega
    · have := (ho.out t _ ht).2.1; omega
  · simp [Act.put, h.sz]

theorem Rel.put_vs {B N nt : Nat} {J : Inj} {s : St} {a : Act} {w : World} (h : Rel B N nt J s a w) {d : Nat} (hd : d < nt) {n : Nat} {cs : List Value} {ds : Array Value} (e : TypeId) (hv : LRel J s.H cs ds.toList) (h1 : ∀ v ∈ cs, v.oneCell' = true) :
    Rel B N nt J { s with ρ := upd s.ρ (some d) (.vs n cs) } (a.put (some d) (.slice (some ⟨w.heap.size, 0, none⟩) n n)) (w.alloc (.cells ds e)) := by
  have hm := h.move (.alloc J s.H w (.cells ds e)) (h.wr.alloc _)
  obtain ⟨own, ho⟩ := h.fr
  have ho' := ho.move (B := B) (.alloc J s.H w (.cells ds e))
  have hlt : d < a.tmps.size := by rw [h.sz]; exact hd
  refine ⟨hm.wr, ⟨_, ho'.put (ob := some w.heap.size) (Nat.le_refl _) hlt (f := .vs n cs) (v := .slice (some ⟨w.heap.size, 0, none⟩) n n) ?_ (fun b hb => ?_) (fun g cs' e => by cases e) (fun t g off e => by cases e)⟩, h.df, ?_, hm.hN⟩
  · unfold FOk
    rw [upd_same, getD_set_same _ _ _ hlt]
    exact ⟨_, ds, e, by simp, rfl, alloc_new _ _, hv, h1⟩
  · cases hb
    refine ⟨⟨h.hN, by rw [alloc_size]; omega, fun id l hl he => ?_⟩, fun t ht => ?_⟩
    · have := h.wr.lt hl; omega
    · have := (ho.out t _ ht).2.1; omega
  · simp [Act.put, h.sz]

/-- A new row. -/
def Inj.add (J : Inj) (n : Nat) (l : Loc) : Inj := fun id => if id = n then some l else J id

theorem row_new {B : Nat} {J : Inj} {H : Hp} {w : World} (h : WRel B J H w) (hB : B ≤ H.length) {cs : List Value} {ds : Array Value} (e : TypeId) (lo hi : Nat)
    (hl : cs.length ≤ ds.size) (hv : ∀ (i : Nat) (x y : Value), cs[i]? = some x → ds[i]? = some y → VRel J H x y) (h1 : ∀ v ∈ cs, v.oneCell' = true) (hfz : ∀ i, i < ds.size → ¬ (lo ≤ i ∧ i < hi)) :
    Tr B w.heap.size J H w (J.add H.length ⟨w.heap.size, 0, ds.size⟩) (H ++ [cs]) (w.alloc (.cells ds e (lo, hi))) ∧ WRel B (J.add H.length ⟨w.heap.size, 0, ds.size⟩) (H ++ [cs]) (w.alloc (.cells ds e (lo, hi))) := by
  have hk : Keep J H (J.add H.length ⟨w.heap.size, 0, ds.size⟩) (H ++ [cs]) := fun id o ho => by
    have hid := (List.getElem?_eq_some_iff.1 ho).1
    exact ⟨o, by rw [List.getElem?_append_left hid]; exact ho, .inr ⟨rfl, by simp [Inj.add]; omega⟩⟩
  have hold : ∀ b, b < w.heap.size → (w.alloc (.cells ds e (lo, hi))).heap[b]? = w.heap[b]? := fun b hb => alloc_old w _ hb
  refine ⟨⟨hk, fun b hb _ => hold b hb, fun id l' hl' => ?_, by rw [alloc_size]; omega, rfl, rfl, rfl⟩, ⟨fun id o ho => ?_, fun id id' l l' hne hB' hl hl' => ?_, fun id hid => ?_⟩⟩
  · simp only [Inj.add] at hl'
    split at hl'
    · cases hl'; exact .inr (Nat.le_refl _)
    · exact .inl ⟨l', hl', rfl⟩
  · by_cases hid : id < H.length
    · rw [List.getElem?_append_left hid] at ho
      obtain ⟨l, ds', e', lo', hi', a1, a2, a3, a4, a5, a6⟩ := h.row id o ho
      refine ⟨l, ds', e', lo', hi', by simp only [Inj.add]; rw [if_neg (by omega)]; exact a1, by rw [hold _ (h.lt a1)]; exact a2, a3, a4, fun i v hi => ?_, a6⟩
      obtain ⟨b1, d, b2, b3⟩ := a5 i v hi
      exact ⟨b1, d, b2, b3.keep hk⟩
    · have e1 : id = H.length := by
        have := (List.getElem?_eq_some_iff.1 ho).1
        simp at this
        omega
      subst e1
      rw [List.getElem?_append_right (Nat.le_refl _)] at ho
      simp at ho
      subst ho
      refine ⟨⟨w.heap.size, 0, ds.size⟩, ds, e, lo, hi, by simp [Inj.add], alloc_new _ _, rfl, by simpa using hl, fun i v hi => ?_, fun _ i _ h2 => hfz i h2⟩
      have hi' := (List.getElem?_eq_some_iff.1 hi).1
      refine ⟨h1 v (List.mem_of_getElem? hi), ds[i]'(by omega), by simp, ?_⟩
      exact (hv i v _ hi (by simp)).keep hk
  · simp only [Inj.add] at hl hl'
    split at hl <;> split at hl'
    · omega
    · cases hl; have := h.lt hl'; simp only; omega
    · cases hl'; have := h.lt hl; simp only; omega
    · exact h.uni id id' l l' hne hB' hl hl'
  · simp only [Inj.add]
    simp at hid
    rw [if_neg (by omega)]
    exact h.dom id (by omega)

end Go.Proofs.Ytdplmjlbkaipiaa.Ev
