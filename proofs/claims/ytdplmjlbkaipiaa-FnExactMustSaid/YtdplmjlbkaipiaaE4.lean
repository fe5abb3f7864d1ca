/- Writing into rows and boxes: memory and the machine's rows go together. -/
import Derived.Test.YtdplmjlbkaipiaaE3
namespace Go.Proofs.Ytdplmjlbkaipiaa.Ev
set_option linter.all false
open Go

theorem spl_get : ∀ (vs : List Value) (o : List Value) (i j : Nat), (spl o i vs)[j]? = if i ≤ j ∧ j < i + vs.length then (if j < o.length then vs[j - i]? else none) else o[j]?
  | [], o, i, j => by
    rw [spl, if_neg]
    simp only [List.length_nil]
    omega
  | v :: vs, o, i, j => by
    rw [spl, spl_get vs, List.length_set, List.getElem?_set, List.length_cons]
    by_cases h1 : i + 1 ≤ j ∧ j < i + 1 + vs.length
    · have h2 : i ≤ j ∧ j < i + (vs.length + 1) := by omega
      simp only [if_pos h1, if_pos h2]
      rw [show j - i = (j - (i + 1)) + 1 by omega, List.getElem?_cons_succ]
    · by_cases h2 : i = j
      · subst h2
        have h3 : i ≤ i ∧ i < i + (vs.length + 1) := by omega
        simp only [if_neg h1, if_pos h3, if_true]
        simp
      · have h3 : ¬ (i ≤ j ∧ j < i + (vs.length + 1)) := by omega
        simp only [if_neg h1, if_neg h2, if_neg h3]

theorem setCells_size (b : Nat) : ∀ (vs : List Value) (o : Nat) (w : World), (w.setCells b o vs).heap.size = w.heap.size
  | [], _, _ => rfl
  | v :: r, o, w => by rw [World.setCells, setCells_size b r]; simp [World.setCell]

theorem setCells_os (b : Nat) : ∀ (vs : List Value) (o : Nat) (w : World), (w.setCells b o vs).os = w.os ∧ (w.setCells b o vs).tape = w.tape ∧ (w.setCells b o vs).output = w.output
  | [], _, _ => ⟨rfl, rfl, rfl⟩
  | v :: r, o, w => by rw [World.setCells]; exact setCells_os b r (o + 1) _

theorem setCells_other (b : Nat) {c : Nat} (hc : c ≠ b) : ∀ (vs : List Value) (o : Nat) (w : World), (w.setCells b o vs).heap[c]? = w.heap[c]?
  | [], _, _ => rfl
  | v :: r, o, w => by rw [World.setCells, setCells_other b hc r]; exact RowKit.Below.heap_setCell _ _ _ _ (by simpa using hc)

theorem setCells_at (b : Nat) {e : TypeId} {fr : Nat × Nat} : ∀ (vs : List Value) (o : Nat) (w : World) (ds : List Value), w.heap[b]? = some (.cells ds.toArray e fr) →
    (w.setCells b o vs).heap[b]? = some (.cells (spl ds o vs).toArray e fr)
  | [], _, _, _, h => h
  | v :: r, o, w, ds, h => by
    rw [World.setCells, spl]
    refine setCells_at b r (o + 1) _ _ ?_
    simp only [World.setCell, Array.getElem?_modify, h]
    simp

/-- A row's block is written: the general form. -/
theorem row_any {B : Nat} {J : Inj} {H : Hp} {w w' : World} (h : WRel B J H w) {id : Nat} {o o' : List Value} {l : Loc} {ds' : Array Value} {e : TypeId} {lo hi : Nat} (ho : H[id]? = some o) (hl : J id = some l) (hB : B ≤ id)
    (hlen : o.length < o'.length ∨ o'.length = o.length) (hsz : l.sh + o'.length ≤ l.sz)
    (hv : ∀ (i : Nat) (v : Value), o'[i]? = some v → v.oneCell' = true ∧ ∃ d, ds'[l.sh + i]? = some d ∧ VRel J H v d)
    (hb : w'.heap[l.b]? = some (.cells ds' e (lo, hi))) (hds : ds'.size = l.sz) (hfz : ∀ i, l.sh ≤ i → i < l.sz → ¬ (lo ≤ i ∧ i < hi))
    (hoth : ∀ c, c ≠ l.b → w'.heap[c]? = w.heap[c]?) (hs : w'.heap.size = w.heap.size) (hos : w'.os = w.os ∧ w'.tape = w.tape ∧ w'.output = w.output) :
    Tr B w.heap.size J H w J (H.set id o') w' ∧ WRel B J (H.set id o') w' := by
  have hid := (List.getElem?_eq_some_iff.1 ho).1
  have hk : Keep J H J (H.set id o') := fun id2 o2 ho2 => by
    by_cases e : id = id2
    · subst e
      rw [ho] at ho2; cases ho2
      refine ⟨o', by simp [hid], ?_⟩
      rcases hlen with h1 | h1
      · exact .inl h1
      · exact .inr ⟨h1, rfl⟩
    · exact ⟨o2, by rw [List.getElem?_set_ne e]; exact ho2, .inr ⟨rfl, rfl⟩⟩
  refine ⟨⟨hk, fun b _ hn => hoth b fun e => hn id l hl hB e.symm, fun _ l' hl' => .inl ⟨l', hl', rfl⟩, by omega, hos.1, hos.2.1, hos.2.2⟩, ⟨fun id2 o2 ho2 => ?_, h.uni, fun id2 h2 => h.dom id2 (by simpa using h2)⟩⟩
  by_cases e1 : id = id2
  · subst e1
    have : o' = o2 := by simpa [hid] using ho2
    subst this
    refine ⟨l, ds', e, lo, hi, hl, hb, hds, hsz, fun i v hi => ?_, fun _ => hfz⟩
    obtain ⟨a1, d, a2, a3⟩ := hv i v hi
    exact ⟨a1, d, a2, a3.keep hk⟩
  · rw [List.getElem?_set_ne e1] at ho2
    obtain ⟨l2, ds2, e2, lo2, hi2, a1, a2, a3, a4, a5, a6⟩ := h.row id2 o2 ho2
    refine ⟨l2, ds2, e2, lo2, hi2, a1, by rw [hoth _ fun x => h.uni id id2 l l2 e1 hB hl a1 x.symm]; exact a2, a3, a4, fun i v hi => ?_, a6⟩
    obtain ⟨b1, d, b2, b3⟩ := a5 i v hi
    exact ⟨b1, d, b2, b3.keep hk⟩

theorem oneCell_of_rel {J : Inj} {H : Hp} {vs ws : List Value} (h : LRel J H vs ws) (h1 : ∀ v ∈ vs, v.oneCell' = true) : ∀ v ∈ ws, v.oneCell' = true := fun v hv => by
  obtain ⟨i, hi⟩ := List.getElem?_of_mem hv
  have hlt := (List.getElem?_eq_some_iff.1 hi).1
  have hx : vs[i]? = some (vs[i]'(by rw [h.1]; exact hlt)) := List.getElem?_eq_getElem _
  rw [← (h.2 i _ v hx hi).one]
  exact h1 _ (List.mem_of_getElem? hx)

/-- Cells are stored into a row. -/
theorem row_store {B : Nat} {P : Program} {J : Inj} {H : Hp} {w : World} (h : WRel B J H w) {id i : Nat} {o o' vs ws : List Value} {l : Loc} (ho : H[id]? = some o) (hl : J id = some l) (hB : B ≤ id)
    (hvw : LRel J H vs ws) (h1 : ∀ v ∈ vs, v.oneCell' = true) (hin : l.sh + i + vs.length ≤ l.sz)
    (ho' : o' = spl o i vs ∧ i + vs.length ≤ o.length ∨ o' = o.take i ++ vs ∧ o.length < i + vs.length ∧ i ≤ o.length) :
    (storeCells ⟨l.b, l.sh + i, none⟩ ws).run P w = .ok () (w.setCells l.b (l.sh + i) ws) ∧
    Tr B w.heap.size J H w J (H.set id o') (w.setCells l.b (l.sh + i) ws) ∧ WRel B J (H.set id o') (w.setCells l.b (l.sh + i) ws) := by
  obtain ⟨l', ds, e, lo, hi, a1, a2, a3, a4, a5, a6⟩ := h.row id o ho
  rw [hl] at a1; cases a1
  have a6 := a6 hB
  have hwl := hvw.1
  have hcell : ∀ j, j < ws.length → w.cell? ⟨l.b, l.sh + i + 0 + j, none⟩ = ds[l.sh + i + j]? := fun j _ => by simp [World.cell?, a2]
  refine ⟨?_, row_any h ho hl hB ?_ ?_ (fun j v hj => ?_) (setCells_at l.b ws (l.sh + i) w ds.toList (by simpa using a2)) (by simpa [spl_length] using a3) a6 (fun c hc => setCells_other l.b hc ws _ w) (setCells_size l.b ws _ w) (setCells_os l.b ws _ w)⟩
  · refine run_storeCells_cells l.b (l.sh + i) ws 0 w (fun j hj => ?_) (fun j hj => ?_) (oneCell_of_rel hvw h1)
    · rw [hcell j hj, Array.getElem?_eq_getElem (by omega)]; rfl
    · have := a6 (l.sh + i + j) (by omega) (by omega)
      simp only [World.frozen?, a2, Bool.and_eq_false_iff, decide_eq_false_iff_not]
      omega
  · rcases ho' with ⟨rfl, _⟩ | ⟨rfl, h2, h3⟩
    · exact .inr (spl_length _ _ _)
    · left; simp; omega
  · rcases ho' with ⟨rfl, _⟩ | ⟨rfl, h2, h3⟩
    · rw [spl_length]; exact a4
    · simp; omega
  · have hds : ∀ k, (spl ds.toList (l.sh + i) ws).toArray[k]? = if l.sh + i ≤ k ∧ k < l.sh + i + ws.length then (if k < ds.size then ws[k - (l.sh + i)]? else none) else ds[k]? := fun k => by
      rw [List.getElem?_toArray, spl_get]; simp
    have hnew : i ≤ j → j < i + vs.length → vs[j - i]? = some v → v.oneCell' = true ∧ ∃ d, (spl ds.toList (l.sh + i) ws).toArray[l.sh + j]? = some d ∧ VRel J H v d := fun q1 q2 q3 => by
      obtain ⟨d, hd, hr⟩ := hvw.get q3
      refine ⟨h1 v (List.mem_of_getElem? q3), d, ?_, hr⟩
      rw [hds, if_pos (by omega), if_pos (by omega), show l.sh + j - (l.sh + i) = j - i by omega]
      exact hd
    have hold : (j < i ∨ i + vs.length ≤ j) → o[j]? = some v → v.oneCell' = true ∧ ∃ d, (spl ds.toList (l.sh + i) ws).toArray[l.sh + j]? = some d ∧ VRel J H v d := fun q1 q3 => by
      obtain ⟨b1, d, b2, b3⟩ := a5 j v q3
      refine ⟨b1, d, ?_, b3⟩
      rw [hds, if_neg (by omega)]
      exact b2
    rcases ho' with ⟨rfl, _⟩ | ⟨rfl, h2, h3⟩
    · rw [spl_get] at hj
      split at hj
      · rename_i hc
        split at hj
        · exact hnew hc.1 hc.2 hj
        · cases hj
      · rename_i hc
        exact hold (by omega) hj
    · by_cases hji : j < i
      · rw [List.getElem?_append_left (by simp; omega), List.getElem?_take, if_pos hji] at hj
        exact hold (.inl hji) hj
      · rw [List.getElem?_append_right (by simp; omega)] at hj
        have hk : (o.take i).length = i := by simp; omega
        rw [hk] at hj
        have := (List.getElem?_eq_some_iff.1 hj).1
        exact hnew (by omega) (by omega) hj

/-- A row goes on in a new block. -/
theorem row_grow {B : Nat} {J : Inj} {H : Hp} {w : World} (h : WRel B J H w) {id : Nat} {o o' : List Value} {ds : Array Value} (e : TypeId) (ho : H[id]? = some o) (hB : B ≤ id) (hlen : o.length < o'.length) (hds : o'.length ≤ ds.size)
    (hv : ∀ (i : Nat) (v : Value), o'[i]? = some v → v.oneCell' = true ∧ ∃ d, ds[i]? = some d ∧ VRel J H v d) :
    Tr B w.heap.size J H w (J.add id ⟨w.heap.size, 0, ds.size⟩) (H.set id o') (w.alloc (.cells ds e)) ∧ WRel B (J.add id ⟨w.heap.size, 0, ds.size⟩) (H.set id o') (w.alloc (.cells ds e)) := by
  have hid := (List.getElem?_eq_some_iff.1 ho).1
  have hk : Keep J H (J.add id ⟨w.heap.size, 0, ds.size⟩) (H.set id o') := fun id2 o2 ho2 => by
    by_cases e : id = id2
    · subst e
      rw [ho] at ho2; cases ho2
      exact ⟨o', by simp [hid], .inl hlen⟩
    · exact ⟨o2, by rw [List.getElem?_set_ne e]; exact ho2, .inr ⟨rfl, by simp only [Inj.add]; rw [if_neg (Ne.symm e)]⟩⟩
  refine ⟨⟨hk, fun b hb _ => alloc_old w _ hb, fun id2 l' hl' => ?_, by rw [alloc_size]; omega, rfl, rfl, rfl⟩, ⟨fun id2 o2 ho2 => ?_, fun id2 id3 l l' hne hB' hl hl' => ?_, fun id2 h2 => ?_⟩⟩
  · simp only [Inj.add] at hl'
    split at hl'
    · cases hl'; exact .inr (Nat.le_refl _)
    · exact .inl ⟨l', hl', rfl⟩
  · by_cases e1 : id = id2
    · subst e1
      have : o' = o2 := by simpa [hid] using ho2
      subst this
      refine ⟨⟨w.heap.size, 0, ds.size⟩, ds, e, 0, 0, by simp [Inj.add], alloc_new _ _, rfl, by simpa using hds, fun i v hi => ?_, fun _ i _ _ => by omega⟩
      obtain ⟨a1, d, a2, a3⟩ := hv i v hi
      exact ⟨a1, d, by simpa using a2, a3.keep hk⟩
    · rw [List.getElem?_set_ne e1] at ho2
      obtain ⟨l2, ds2, e2, lo2, hi2, a1, a2, a3, a4, a5, a6⟩ := h.row id2 o2 ho2
      refine ⟨l2, ds2, e2, lo2, hi2, by simp only [Inj.add]; rw [if_neg (Ne.symm e1)]; exact a1, by rw [alloc_old w _ (h.lt a1)]; exact a2, a3, a4, fun i v hi => ?_, a6⟩
      obtain ⟨b1, d, b2, b3⟩ := a5 i v hi
      exact ⟨b1, d, b2, b3.keep hk⟩
  · simp only [Inj.add] at hl hl'
    split at hl <;> split at hl'
    · omega
    · cases hl; have := h.lt hl'; simp only; omega
    · cases hl'; have := h.lt hl; simp only; omega
    · exact h.uni id2 id3 l l' hne hB' hl hl'
  · simp only [Inj.add]
    rw [if_neg (by simp at h2; omega)]
    exact h.dom id2 (by simpa using h2)

/-- Cells are stored into a box of the frame. -/
theorem box_store {B N nt : Nat} {P : Program} {J : Inj} {s : St} {a : Act} {w : World} (h : Rel B N nt J s a w) {t g i : Nat} {cs vs ws : List Value} (ht : s.ρ t = .bx g cs) (hvw : LRel J s.H vs ws) (h1 : ∀ v ∈ vs, v.oneCell' = true)
    (hin : i + vs.length ≤ cs.length) {own : Nat → Option Nat} (hown : FRel N J s.H w s.ρ s.gn a.tmps own) {b : Nat} (hb : own t = some b) :
    (storeCells ⟨b, i, none⟩ ws).run P w = .ok () (w.setCells b i ws) ∧ Tr B N J s.H w J s.H (w.setCells b i ws) ∧
    Rel B N nt J { s with ρ := upd s.ρ (some t) (.bx g (spl cs i vs)) } a (w.setCells b i ws) := by
  have hx := hown.ok t
  unfold FOk at hx
  simp only [ht] at hx
  obtain ⟨b', ds, e, b1, b2, b3, b4, b5⟩ := hx
  rw [hb] at b1; cases b1
  obtain ⟨o1, o2, o3⟩ := hown.out t b hb
  have hwl := hvw.1
  have hcl := b4.1
  have hcl' : cs.length = ds.size := by simpa using hcl
  have hoth : ∀ c, c ≠ b → (w.setCells b i ws).heap[c]? = w.heap[c]? := fun c hc => setCells_other b hc ws i w
  have hat := setCells_at b (e := e) (fr := (0, 0)) ws i w ds.toList (by simpa using b3)
  obtain ⟨q1, q2, q3⟩ := setCells_os b ws i w
  have htr : Tr B N J s.H w J s.H (w.setCells b i ws) := ⟨.refl _ _, fun c hc _ => hoth c (by omega), fun _ l' hl => .inl ⟨l', hl, rfl⟩, by rw [setCells_size]; omega, q1, q2, q3⟩
  refine ⟨?_, htr, ⟨⟨fun id o ho => ?_, h.wr.uni, h.wr.dom⟩, ⟨own, fun x => ?_, hown.inj, fun x c hc => ?_, fun x g' cs' hg => ?_, fun x t' g' off hg => ?_⟩, h.df, h.sz, by rw [setCells_size]; exact h.hN⟩⟩
  · have := run_storeCells_cells (P := P) b i ws 0 w (fun j hj => ?_) (fun j hj => ?_) (oneCell_of_rel hvw h1)
    · simpa using this
    · simp only [World.cell?, b3]
      simp
      omega
    · simp only [World.frozen?, b3]
      simp
  · obtain ⟨l, ds2, e2, lo2, hi2, a1, a2, a3⟩ := h.wr.row id o ho
    exact ⟨l, ds2, e2, lo2, hi2, a1, by rw [hoth _ (o3 id l a1)]; exact a2, a3⟩
  · by_cases ex : x = t
    · subst ex
      unfold FOk
      dsimp only
      rw [upd_same]
      refine ⟨b, _, e, hb, b2, hat, by simpa using LRel.spl hvw b4 i, fun v hv => ?_⟩
      obtain ⟨j, hj⟩ := List.getElem?_of_mem hv
      rw [spl_get] at hj
      split at hj
      · split at hj
        · exact h1 v (List.mem_of_getElem? hj)
        · cases hj
      · exact b5 v (List.mem_of_getElem? hj)
    · have hy := hown.ok x
      unfold FOk at hy ⊢
      dsimp only
      rw [upd_ne _ _ ex]
      have hne : ∀ c, own x = some c → c ≠ b := fun c hc e => ex (hown.inj x t b (e ▸ hc) hb)
      split
      · rename_i v hv; simp only [hv] at hy; exact hy
      · rename_i g' cs' hv
        simp only [hv] at hy
        obtain ⟨c, ds', e', c1, c2, c3, c4⟩ := hy
        exact ⟨c, ds', e', c1, c2, by rw [hoth c (hne c c1)]; exact c3, c4⟩
      · rename_i t' g' off hv
        simp only [hv] at hy
        intro cs' hcs
        by_cases et : t' = t
        · subst et
          rw [upd_same] at hcs
          cases hcs
          exact hy cs ht
        · rw [upd_ne _ _ et] at hcs
          exact hy cs' hcs
      · rename_i n cs' hv
        simp only [hv] at hy
        obtain ⟨c, ds', e', c1, c2, c3, c4⟩ := hy
        exact ⟨c, ds', e', c1, c2, by rw [hoth c (hne c c1)]; exact c3, c4⟩
      · trivial
  · obtain ⟨p1, p2, p3⟩ := hown.out x c hc
    exact ⟨p1, by rw [setCells_size]; exact p2, p3⟩
  · dsimp only at hg
    by_cases ex : x = t
    · subst ex; rw [upd_same] at hg; cases hg; exact hown.gbx x g cs ht
    · rw [upd_ne _ _ ex] at hg; exact hown.gbx x g' cs' hg
  · dsimp only at hg
    by_cases ex : x = t
    · subst ex; rw [upd_same] at hg; cases hg
    · rw [upd_ne _ _ ex] at hg; exact hown.gvp x t' g' off hg

end Go.Proofs.Ytdplmjlbkaipiaa.Ev
