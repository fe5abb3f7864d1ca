/- Each operation of the small machine is Go's own: records that are built, rows that are made, append, copy, clear, texts and bytes. -/
import Derived.Test.YtdplmjlbkaipiaaE7
namespace Go.Proofs.Ytdplmjlbkaipiaa.Ev
set_option linter.all false
open Go

section
variable {P : Program} {B N nt : Nat} {o : Oper} {J : Inj} {s : St} {a : Act} {w : World}

theorem fillL_length : ∀ {ps : List (Nat × Nat × Value)} {zs cs : List Value}, fillL zs ps = some cs → cs.length = zs.length
  | [], zs, cs, h => by simp only [fillL] at h; cases h; rfl
  | (off, n, v) :: ps, zs, cs, h => by
    simp only [fillL] at h
    split at h
    · split at h
      · rw [fillL_length h, spl_length]
      · cases h
    · cases h

theorem mkCells_length {len esz : Nat} {z : List Value} {ps : List (Nat × X)} {cs : List Value} (h : mkCells s len esz z ps = some cs) : cs.length = len * z.length := by
  unfold mkCells at h
  split at h
  · rw [fillL_length h, zeros_length]
  · cases h

theorem sim_mkV {t e : TypeId} {len : Nat} {ps : Array (Nat × Operand)} {z : List Value} {xs : List (Nat × X)} {d : Nat} (hop : o.op = .buildSlice t len ps) (hdst : o.dst = some d) (ht : P.underlying t = some (.slice e)) (hz : zeroI P e = some z)
    (hxs : ps.toList.mapM (fun p => do pure (p.1, ← cx p.2)) = some xs) (hbig : len * z.length ≤ 16777216) (R : Rel B N nt J s a w) (hd : d < nt) {f : FV} {s' : St} (h : mkVK s len z.length z xs = some (f, s')) : Sim P B N nt o J s a w f s' := by
  unfold mkVK at h
  split at h
  · rename_i cs hcs
    cases h
    obtain ⟨ds, m1, m2, m3⟩ := mk_ok (P := P) R ht hz hxs hbig hcs
    refine ⟨_, .slice (some ⟨w.heap.size, 0, none⟩) len len, _, J, ?_, .inl rfl, (Tr.alloc J s.H w (.cells ds e)).mono R.hN, ?_⟩
    · simp only [execOp, hop]
      exact run_value m1
    · rw [hdst]
      exact R.put_vs hd e m2 m3
  · cases h

theorem sim_mkO {t e : TypeId} {len : Nat} {ps : Array (Nat × Operand)} {z : List Value} {xs : List (Nat × X)} (hop : o.op = .buildSlice t len ps) (ht : P.underlying t = some (.slice e)) (hz : zeroI P e = some z)
    (hxs : ps.toList.mapM (fun p => do pure (p.1, ← cx p.2)) = some xs) (hbig : len * z.length ≤ 16777216) (R : Rel B N nt J s a w) (hB : B ≤ s.H.length) (hd : ∀ d, o.dst = some d → d < nt) {f : FV} {s' : St} (h : mkOK s len z.length z xs = some (f, s')) :
    Sim P B N nt o J s a w f s' := by
  unfold mkOK at h
  split at h
  · rename_i cs hcs
    cases h
    obtain ⟨ds, m1, m2, m3⟩ := mk_ok (P := P) R ht hz hxs hbig hcs
    have hl : cs.length = ds.size := by rw [m2.1, Array.length_toList]
    have hcl := mkCells_length hcs
    refine sim_newrow (t := e) (ds := ds) (lo := 0) (hi := 0) (v := .slice (some ⟨w.heap.size, 0, none⟩) len len) R hB (.refl _ _ _ _ _) hd ?_ (by omega) (fun i x y hx hy => m2.2 i x y hx (by simpa using hy)) m3 (fun i _ => by omega) fun J' hJ => ?_
    · simp only [execOp, hop]
      exact run_value m1
    · exact .sl _ 0 z.length len _ cs _ len (by simp) (by omega) (Nat.le_refl _) (Nat.le_refl _) fun _ => ⟨_, hJ, .inr ⟨rfl, by simp only; omega⟩⟩
  · cases h

theorem partsS_ok {fs : Array Field} : ∀ {ps : List (Nat × Operand)} {xs : List (Nat × Nat × X)}, partsS P fs ps = some xs → ps.length = xs.length ∧
    ∀ (j : Nat) (y : Nat × Nat × X), xs[j]? = some y → ∃ p f i, ps[j]? = some p ∧ fs[p.1]? = some f ∧ P.info? f.type = some i ∧ y.1 = f.offset ∧ y.2.1 = i.size ∧ cx p.2 = some y.2.2
  | [], xs, h => by simp only [partsS] at h; cases h; exact ⟨rfl, fun j y hy => by simp at hy⟩
  | p :: ps, xs, h => by
    simp only [partsS] at h
    split at h
    · rename_i f x r h1 h2 h3
      split at h
      · rename_i i h4
        cases h
        obtain ⟨k1, k2⟩ := partsS_ok h3
        refine ⟨by simp [k1], fun j y hy => ?_⟩
        cases j with
        | zero => simp at hy; subst hy; exact ⟨p, f, i, rfl, h1, h4, rfl, rfl, h2⟩
        | succ j => exact k2 j y (by simpa using hy)
      · cases h
    · cases h

theorem partsA_ok {n : Nat} : ∀ {ps : List (Nat × Operand)} {xs : List (Nat × Nat × X)}, partsA n ps = some xs → ps.length = xs.length ∧
    ∀ (j : Nat) (y : Nat × Nat × X), xs[j]? = some y → ∃ p, ps[j]? = some p ∧ y.1 = p.1 * n ∧ y.2.1 = n ∧ cx p.2 = some y.2.2
  | [], xs, h => by simp only [partsA] at h; cases h; exact ⟨rfl, fun j y hy => by simp at hy⟩
  | p :: ps, xs, h => by
    simp only [partsA] at h
    split at h
    · rename_i x r h2 h3
      cases h
      obtain ⟨k1, k2⟩ := partsA_ok h3
      refine ⟨by simp [k1], fun j y hy => ?_⟩
      cases j with
      | zero => simp at hy; subst hy; exact ⟨p, rfl, rfl, rfl, h2⟩
      | succ j => exact k2 j y (by simpa using hy)
    · cases h

theorem run_places : ∀ {fs : List Field}, fs.all (fun f => (P.info? f.type).isSome) = true →
    (fs.mapM (fun f => do pure (f.offset, ← sizeOf f.type) : Field → Sem (Nat × Nat))).run P w = .ok (fs.map fun f => (f.offset, ((P.info? f.type).map (·.size)).getD 0)) w
  | [], _ => by simp
  | f :: fs, h => by
    simp only [List.all_cons, Bool.and_eq_true] at h
    obtain ⟨i, hi⟩ := Option.isSome_iff_exists.1 h.1
    simp only [List.mapM_cons, Sem.run_bind, run_sizeOf' hi, Result.andThen_ok, Sem.run_pure, run_places h.2, List.map_cons, hi, Option.map_some, Option.getD_some]

theorem sim_build {t : TypeId} {ps : Array (Nat × Operand)} {i : TypeInfo} {cs : Array Value} {xs : List (Nat × Nat × X)} (hop : o.op = .build t ps) (hi : P.info? t = some i) (hz : i.zero = some (.agg cs)) (hsc : cs.toList.all scal = true)
    (hu : (∃ fs, P.underlying t = some (.struct fs) ∧ fieldsOk P fs = true) ∨ ∃ n e, P.underlying t = some (.array n e)) (hxs : partsOf P t ps.toList = some xs) (R : Rel B N nt J s a w) (hd : ∀ d, o.dst = some d → d < nt) {f : FV} {s' : St}
    (h : buildK s cs.toList xs = some (f, s')) : Sim P B N nt o J s a w f s' := by
  unfold buildK at h
  split at h
  · rename_i vs hvs
    split at h
    · rename_i cs' hcs
      simp only [St.val] at h; cases h
      obtain ⟨l1, l2⟩ := exps_ok R hvs
      have hq : ∀ {j : Nat} {p0 : Nat × Operand} {q : Nat × Value}, ps.toList[j]? = some p0 → (ps.map fun (i, x) => (i, a.eval x)).toList[j]? = some q → q = (p0.1, a.eval p0.2) := fun {j p0 q} g1 hq => by
        have hg : ps[j]? = some p0 := by simpa using g1
        simp [hg] at hq
        exact hq.symm
      have fin : ∀ {ds' : Array Value}, (Instr.build t (ps.map fun (i, x) => (i, a.eval x))).run P w = .ok (.agg ds') w → LRel J s.H cs' ds'.toList → (∀ v ∈ cs', v.oneCell' = true) → Sim P B N nt o J s a w (.val (.agg cs'.toArray)) s := fun {ds'} f1 f2 f3 => by
        refine .of_val R hd (v := .agg ds') (by simp only [execOp, hop]; exact run_value f1) (.agg _ _ (by simpa using f2.1) (fun j x hx => f3 x (List.mem_of_getElem? (by simpa using hx))) fun j x y hx hy => f2.2 j x y (by simpa using hx) (by simpa using hy))
      have hzero : (zeroValue t).run P w = .ok (.agg cs) w := by simp [zeroValue, typeInfo, hi, hz]
      rcases hu with ⟨fs, hu, hfo⟩ | ⟨n, e, hu⟩
      · simp only [partsOf, hu] at hxs
        obtain ⟨m1, m2⟩ := partsS_ok hxs
        have hpl := run_places (P := P) (w := w) hfo
        obtain ⟨ds', f1, f2, f3⟩ := fill_ok (J := J) (s := s) (place := fun j => (fs.map fun f => (f.offset, ((P.info? f.type).map (·.size)).getD 0))[j]?) (qs := (ps.map fun (i, x) => (i, a.eval x)).toList) (ds := cs) (LRel.scal hsc) (one_zero hsc)
          (by simp at l1 m1 ⊢; omega) (fun j p q hp hq' => by
            obtain ⟨p', hp1, hp2, hp3, hp4⟩ := l2 j p hp
            obtain ⟨p0, f0, i0, g1, g2, g3, g4, g5, g6⟩ := m2 j p' hp1
            have := hq g1 hq'
            subst this
            refine ⟨?_, opx R g6 hp4⟩
            simp only [Array.getElem?_map, g2, Option.map_some, g3, Option.getD_some, ← hp2, ← hp3, g4, g5]) hcs
        refine fin (ds' := ds') ?_ f2 f3
        simp only [Instr.build, Sem.run_bind, hzero, Result.andThen_ok, run_underlying hu]
        have hmm : ((fs.mapM fun f => do pure (f.offset, ← sizeOf f.type) : Sem (Array (Nat × Nat)))).run P w = .ok (fs.map fun f => (f.offset, ((P.info? f.type).map (·.size)).getD 0)) w := by
          rw [Array.mapM_eq_mapM_toList, Sem.run_map, hpl]
          simp only [Result.andThen_ok]
          congr 1
          apply Array.toList_inj.1
          simp
        rw [hmm]
        simp only [Result.andThen_ok, Value.cells, f1, Sem.run_pure]
      · simp only [partsOf, hu] at hxs
        split at hxs
        · rename_i ie hie
          obtain ⟨m1, m2⟩ := partsA_ok hxs
          obtain ⟨ds', f1, f2, f3⟩ := fill_ok (J := J) (s := s) (place := fun j => some (j * ie.size, ie.size)) (qs := (ps.map fun (i, x) => (i, a.eval x)).toList) (ds := cs) (LRel.scal hsc) (one_zero hsc)
            (by simp at l1 m1 ⊢; omega) (fun j p q hp hq' => by
              obtain ⟨p', hp1, hp2, hp3, hp4⟩ := l2 j p hp
              obtain ⟨p0, g1, g4, g5, g6⟩ := m2 j p' hp1
              have := hq g1 hq'
              subst this
              exact ⟨by simp only [← hp2, ← hp3, g4, g5], opx R g6 hp4⟩) hcs
          refine fin (ds' := ds') ?_ f2 f3
          simp only [Instr.build, Sem.run_bind, hzero, Result.andThen_ok, run_underlying hu, run_sizeOf' hie, Value.cells, f1, Sem.run_pure]
        · cases hxs
    · cases h
  · cases h

theorem sim_makeS {t e : TypeId} {x1 x2 : Operand} {p q : X} {z : List Value} {i : TypeInfo} (hop : o.op = .makeSlice t x1 x2) (ht : P.underlying t = some (.slice e)) (hz : zeroI P e = some z) (hi : P.info? e = some i) (h1 : cx x1 = some p) (h2 : cx x2 = some q)
    (R : Rel B N nt J s a w) (hB : B ≤ s.H.length) (hd : ∀ d, o.dst = some d → d < nt) {f : FV} {s' : St} (h : makeSK s z.length i.bytes z p q = some (f, s')) : Sim P B N nt o J s a w f s' := by
  obtain ⟨i', zv, z1, z2, z3, z4, z5, z6⟩ := zeroI_spec hz
  rw [hi] at z1; cases z1
  unfold makeSK at h
  split at h
  · rename_i k1 l k2 c e1 e2
    split at h
    · rename_i hc
      obtain ⟨c1, c2, c3, c4⟩ := hc
      cases h
      have hm := made_eq (n := c.toNat) z3 z4
      have hml : (madeCells zv.cells (c.toNat * i.size)).size = c.toNat * z.length := by rw [size_madeCells, z4]
      refine sim_newrow (t := e) (ds := madeCells zv.cells (c.toNat * i.size)) (lo := 0) (hi := 0) (v := .slice (some ⟨w.heap.size, 0, none⟩) l.toNat c.toNat) R hB (.refl _ _ _ _ _) hd ?_ (by rw [zeros_length, hml]; exact Nat.le_refl _) (fun j x y hx hy => ?_) (one_zero (zeros_scal z5)) (fun i _ => by omega) fun J' hJ => ?_
      · simp only [execOp, hop, (opx R h1 e1).int_inv, (opx R h2 e2).int_inv]
        refine run_value ?_
        exact run_make w t e i zv ht hi z2 k1 k2 l c c1 c2 (by rw [Int.mul_comm]; omega) (by omega)
      · have : x = y := by
          rw [← Array.getElem?_toList, hm, hx] at hy
          exact Option.some.inj hy
        subst this
        exact .scal (List.all_eq_true.1 (zeros_scal z5) x (List.mem_of_getElem? hx))
      · exact .sl _ 0 z.length _ _ (zeros c.toNat z) _ c.toNat (by simp) (by rw [zeros_length]; omega) (by omega) (Nat.le_refl _) fun _ => ⟨_, hJ, .inr ⟨rfl, by simp only [hml]; omega⟩⟩
    · cases h
  · cases h

theorem sim_s2b {sr ds e : TypeId} {x1 : Operand} {p : X} {esz : Nat} (hop : o.op = .convert sr ds x1) (hs : P.underlying sr = some .string) (hk : P.underlying ds = some (.slice e)) (he : P.underlying e = some (.int .u8)) (h1 : cx x1 = some p)
    (R : Rel B N nt J s a w) (hB : B ≤ s.H.length) (hd : ∀ d, o.dst = some d → d < nt) {f : FV} {s' : St} (h : s2bK s p = some (f, s')) (_ : esz = 1) : Sim P B N nt o J s a w f s' := by
  unfold s2bK at h
  split at h
  · rename_i b e1
    cases h
    have hcap : b.size ≤ grownCap w b.size 0 e := by
      simp only [grownCap, Question.cut]
      exact Nat.le_add_right _ _
    have hsz : (bytesRow b (grownCap w b.size 0 e)).size = grownCap w b.size 0 e := by
      simp only [bytesRow, Array.size_append, Array.size_map, Array.size_replicate]
      have : b.data.size = b.size := rfl
      omega
    have hlen : (b.data.toList.map fun c => Value.int .u8 c.toNat).length = b.size := by simp
    have hone : ∀ v ∈ (b.data.toList.map fun c => Value.int .u8 c.toNat), v.oneCell' = true := fun v hv => by
      obtain ⟨c, _, rfl⟩ := List.mem_map.1 hv
      rfl
    refine sim_newrow (t := e) (w0 := w.drew) (ds := bytesRow b (grownCap w b.size 0 e)) (lo := (bytesRow b (grownCap w b.size 0 e)).size) (hi := (bytesRow b (grownCap w b.size 0 e)).size + 1) (v := .slice (some ⟨w.heap.size, 0, none⟩) b.size (grownCap w b.size 0 e))
      R.drew hB ((Tr.drew J s.H w).mono R.hN) hd ?_ (by rw [hlen, hsz]; exact hcap) (fun j x y hx hy => ?_) hone (fun i hi => by omega) fun J' hJ => ?_
    · simp only [execOp, hop, (opx R h1 e1).str_inv]
      exact run_value (run_bytes_of_string w sr ds e b hs hk he)
    · have hj := (List.getElem?_eq_some_iff.1 hx).1
      rw [hlen] at hj
      have : x = y := by
        unfold bytesRow at hy
        rw [Array.getElem?_append_left (by rw [Array.size_map]; exact hj)] at hy
        rw [← Array.getElem?_toList, Array.toList_map, hx] at hy
        exact Option.some.inj hy
      subst this
      obtain ⟨c, _, rfl⟩ := List.mem_map.1 (List.mem_of_getElem? hx)
      exact .int _ _
    · exact .sl _ 0 1 _ _ (b.data.toList.map fun c => Value.int .u8 c.toNat) _ (grownCap w b.size 0 e) (by simp) (by have := hlen; omega) hcap (by omega) fun _ => ⟨_, hJ, .inr ⟨rfl, by simp only [hsz]; omega⟩⟩
  · cases h

theorem rowOf_spec {H : Hp} {v : Value} {id off e len : Nat} {os : List Value} (h : rowOf H v = some (id, off, e, len, os)) : ∃ cap, v = .slice (some ⟨id, off, some e⟩) len cap ∧ H[id]? = some os ∧ off + cap = os.length := by
  unfold rowOf at h
  split at h
  · split at h
    · split at h
      · cases h; exact ⟨_, rfl, by assumption, by assumption⟩
      · cases h
    · cases h
  · cases h

theorem src_ok (R : Rel B N nt J s a w) {x : Operand} {y : X} {esz n : Nat} {cs : List Value} (hx : cx x = some y) (h : srcOf s.H esz (ex s.ρ y) = some (n, cs)) :
    ∃ base ccap, a.eval x = .slice base n ccap ∧ cs.length = n * esz ∧ ((n = 0 ∧ cs = []) ∨ ∃ p ds, base = some p ∧ LRel J s.H cs ds ∧ (∀ v ∈ cs, v.oneCell' = true) ∧ ∀ j v, ds[j]? = some v → w.cell? (p.add j) = some v) := by
  unfold srcOf at h
  split at h
  · rename_i hy
    cases h
    have hr := opx R hx (v := .slice none 0 0) (by simp [exv, hy])
    generalize a.eval x = c at hr
    cases hr
    exact ⟨_, _, rfl, by simp, .inl ⟨rfl, rfl⟩⟩
  · rename_i v hnn hy
    split at h
    · rename_i id off e len os hrow
      split at h
      · rename_i hc
        obtain ⟨rfl, hle⟩ := hc
        cases h
        have hr := opx R hx (v := v) (by simp [exv, hy])
        obtain ⟨cap, rfl, g0, hv⟩ := rowOf_spec hrow
        generalize a.eval x = c at hr
        cases hr with
        | sl _ _ _ _ _ o2 a2 ccap g1 g2 g3 g4 g5 =>
          rw [g0] at g1; cases g1
          refine ⟨_, _, rfl, by simp; omega, ?_⟩
          obtain ⟨l, hl, ha⟩ := g5 hv
          rcases ha with ⟨ha, _⟩ | ⟨ha, hb⟩
          · left
            refine ⟨ha, ?_⟩
            rw [ha]
            simp
          · right
            obtain ⟨l', ds, e', lo, hi', b1, b2, b3, b4, b5, b6⟩ := R.wr.row _ _ g0
            rw [hl] at b1; cases b1
            refine ⟨a2, (ds.toList.drop (l.sh + off)).take (n * e), rfl, ⟨?_, fun j x y hx hy => ?_⟩, fun v hv => ?_, fun j v hj => ?_⟩
            · simp
              omega
            · rw [List.getElem?_take] at hx hy
              split at hx
              · rename_i hj
                rw [if_pos hj, List.getElem?_drop] at hy
                rw [List.getElem?_drop] at hx
                obtain ⟨_, dd, hdd, hrr⟩ := b5 _ x hx
                have : dd = y := by
                  rw [Array.getElem?_toList, show l.sh + off + j = l.sh + (off + j) by omega, hdd] at hy
                  exact Option.some.inj hy
                subst this
                exact hrr
              · cases hx
            · have hv' := List.mem_of_mem_drop (List.mem_of_mem_take hv)
              obtain ⟨k, hk⟩ := List.getElem?_of_mem hv'
              exact (b5 k v hk).1
            · rw [List.getElem?_take] at hj
              split at hj
              · rw [List.getElem?_drop] at hj
                rw [ha, Addr.add_lit]
                simp only [World.cell?, b2]
                simpa using hj
              · cases hj
      · cases h
    · cases h
  · rename_i n' cs' hy
    split at h
    · rename_i hl
      cases h
      cases y with
      | t t =>
        have hxt : x = .tmp t := by cases x <;> simp [cx] at hx <;> simp_all
        subst hxt
        obtain ⟨own, ho⟩ := R.fr
        have hf := ho.ok t
        unfold FOk at hf
        simp only [ex] at hy
        simp only [hy] at hf
        obtain ⟨b, ds, e, f1, f2, f3, f4, f5⟩ := hf
        refine ⟨_, _, f2, hl, .inr ⟨_, ds.toList, rfl, f4, f5, fun j v hj => ?_⟩⟩
        rw [Addr.add_lit]
        simp only [World.cell?, f3]
        simpa using hj
      | c v => simp [ex] at hy
      | f g => simp [ex] at hy
    · cases h
  · cases h

theorem run_first {size n ccap : Nat} {base : Option Addr} {ds : List Value} (h : (n = 0 ∧ ds = []) ∨ ∃ p, base = some p ∧ ds.length = n * size ∧ ∀ j v, ds[j]? = some v → w.cell? (p.add j) = some v) :
    (Builtin.firstCells size n (.slice base n ccap)).run P w = .ok ds.toArray w := by
  rcases h with ⟨rfl, rfl⟩ | ⟨p, rfl, hl, hc⟩
  · cases base with
    | none => exact run_firstCells_none w size 0 0 ccap
    | some p => exact run_firstCells_some w size 0 p 0 ccap [] (by simp) (by simp)
  · exact run_firstCells_some w size n p n ccap ds hl hc

theorem bytesOf_spec : ∀ {cs : List Value} {bs : List UInt8}, bytesOf cs = some bs → ∃ ns : List Int, cs = ns.map (Value.int .u8) ∧ bs = ns.map fun n => UInt8.ofNat n.toNat
  | [], bs, h => by simp only [bytesOf] at h; cases h; exact ⟨[], rfl, rfl⟩
  | c :: cs, bs, h => by
    simp only [bytesOf] at h
    split at h
    · rename_i b bs' hb hbs
      cases h
      obtain ⟨ns, h1, h2⟩ := bytesOf_spec hbs
      unfold byteOf at hb
      split at hb
      · rename_i n
        cases hb
        exact ⟨n :: ns, by simp [h1], by simp [h2]⟩
      · cases hb
    · cases h

theorem foldl_push_all : ∀ (ns : List Int) (r : ByteArray), ns.foldl (fun r n => r.push (UInt8.ofNat n.toNat)) r = ⟨r.data ++ (ns.map fun n => UInt8.ofNat n.toNat).toArray⟩
  | [], r => by simp
  | n :: ns, r => by
    simp only [List.foldl_cons]
    rw [foldl_push_all ns]
    simp [ByteArray.push]

theorem sim_b2s {sr ds e : TypeId} {x1 : Operand} {p : X} (hop : o.op = .convert sr ds x1) (hs : P.underlying sr = some (.slice e)) (hk : P.underlying ds = some .string) (he : P.underlying e = some (.int .u8)) (h1 : cx x1 = some p)
    (R : Rel B N nt J s a w) (hd : ∀ d, o.dst = some d → d < nt) {f : FV} {s' : St} (h : b2sK s p = some (f, s')) : Sim P B N nt o J s a w f s' := by
  unfold b2sK at h
  split at h
  · rename_i n cs hsrc
    split at h
    · rename_i bs hbs
      simp only [St.val] at h; cases h
      obtain ⟨base, ccap, hv, hl, hc⟩ := src_ok R h1 hsrc
      refine .of_val R hd (v := .string ⟨bs.toArray⟩) ?_ (.str _)
      simp only [execOp, hop, hv]
      refine run_value ?_
      rw [run_convert_bytes_string w sr ds e base n ccap hs he hk]
      obtain ⟨ns, rfl, rfl⟩ := bytesOf_spec hbs
      have hload : ∀ p, base = some p → (loadCells p n).run P w = .ok (ns.map (Value.int .u8)).toArray w := fun p hp => by
        rcases hc with ⟨rfl, hc⟩ | ⟨p', ds', hp', h2, _, h4⟩
        · rw [hc]
          simpa using run_loadCells_list (P := P) w p [] (by simp)
        · rw [hp'] at hp; cases hp
          have hds : ds' = ns.map (Value.int .u8) := by
            apply List.ext_getElem? 
            intro j
            cases hj : (ns.map (Value.int .u8))[j]? with
            | none =>
              have := h2.1
              rw [List.getElem?_eq_none_iff] at hj ⊢
              omega
            | some v =>
              obtain ⟨y, hy, hr⟩ := h2.get hj
              obtain ⟨m, _, rfl⟩ := List.mem_map.1 (List.mem_of_getElem? hj)
              cases hr
              exact hy
          have := run_loadCells_list (P := P) w p ds' h4
          rw [hds] at this
          have hn : (ns.map (Value.int .u8)).length = n := by omega
          rw [hn] at this
          exact this
      cases base with
      | none =>
        have : n = 0 := by
          rcases hc with ⟨h0, _⟩ | ⟨p', _, hp', _⟩
          · exact h0
          · cases hp'
        have : ns = [] := by
          have := hl
          simp at this
          apply List.eq_nil_of_length_eq_zero
          omega
        subst this
        simp [Conv.bytesToString]
        rfl
      | some q =>
        rw [run_bytesToString w q n ccap ns (hload q rfl), foldl_push_all]
        simp
    · cases h
  · cases h

end
end Go.Proofs.Ytdplmjlbkaipiaa.Ev
