/- Each operation of the small machine is Go's own: slices, rows that are made, append, copy. -/
import Derived.Test.YtdplmjlbkaipiaaE6
namespace Go.Proofs.Ytdplmjlbkaipiaa.Ev
set_option linter.all false
open Go

section
variable {P : Program} {B N nt : Nat} {o : Oper} {J : Inj} {s : St} {a : Act} {w : World}

theorem opbnd (R : Rel B N nt J s a w) {x : Option Operand} {y : Option X} {d n : Int} (hx : cxo x = some y) (h : bnd s.ρ d y = some n) : (x = none ∧ n = d) ∨ ∃ k x', x = some x' ∧ a.eval x' = .int k n := by
  cases x with
  | none =>
    simp only [cxo] at hx; cases hx
    simp only [bnd] at h; cases h
    exact .inl ⟨rfl, rfl⟩
  | some x' =>
    simp only [cxo] at hx
    cases hc : cx x' with
    | none => rw [hc] at hx; cases hx
    | some y' =>
      rw [hc] at hx
      have : y = some y' := by simpa using hx.symm
      subst this
      simp only [bnd] at h
      split at h
      · rename_i k m e1
        cases h
        exact .inr ⟨k, x', rfl, (opx R hc e1).int_inv⟩
      · cases h

theorem run_slice_opt {t e : TypeId} {i : TypeInfo} (ht : P.underlying t = some (.slice e)) (hi : P.info? e = some i) (ad : Option Addr) (len cap : Nat) (lo hi' : Option Value) (l h : Int)
    (hlo : (lo = none ∧ l = 0) ∨ ∃ k, lo = some (.int k l)) (hhi : (hi' = none ∧ h = len) ∨ ∃ k, hi' = some (.int k h)) (h0 : 0 ≤ l) (h1 : l ≤ h) (h2 : h ≤ cap) :
    (Instr.sliceAt t (.slice ad len cap) lo hi' none).run P w = .ok (sliced ad l.toNat h.toNat cap i.size) w := by
  have hF : P.elem t = e := by simp [Program.elem, ht]
  have ht' : P.underlying t = some (.slice (P.elem t)) := by rw [hF]; exact ht
  rw [run_sliceAt_slice w t _ lo hi' none ht']
  have hs : (sizeOf (P.elem t)).run P w = .ok i.size w := by rw [hF]; exact run_sizeOf' hi
  rcases hlo with ⟨rfl, rfl⟩ | ⟨k, rfl⟩ <;> rcases hhi with ⟨rfl, rfl⟩ | ⟨k', rfl⟩
  · rw [run_slice_all w t ad len cap ht', hs]; rfl
  · rw [run_slice_h w t ad len cap ht' k' h (by omega) h2, hs]; rfl
  · rw [run_slice_l w t ad len cap ht' k l h0 h1, hs]; rfl
  · rw [run_slice_lh w t ad len cap ht' k k' l h h0 h1 h2, hs]; rfl

theorem opt_map {x : Option Operand} {d n : Int} (h : (x = none ∧ n = d) ∨ ∃ k x', x = some x' ∧ a.eval x' = .int k n) : (x.map a.eval = none ∧ n = d) ∨ ∃ k, x.map a.eval = some (.int k n) := by
  rcases h with ⟨rfl, rfl⟩ | ⟨k, x', rfl, h⟩
  · exact .inl ⟨rfl, rfl⟩
  · exact .inr ⟨k, by simp [h]⟩

theorem sim_slc {t e : TypeId} {x1 : Operand} {lo hi : Option Operand} {p : X} {q r : Option X} {i : TypeInfo} (hop : o.op = .slice t x1 lo hi none) (ht : P.underlying t = some (.slice e)) (hi' : P.info? e = some i) (hz : i.size ≠ 0)
    (h1 : cx x1 = some p) (h2 : cxo lo = some q) (h3 : cxo hi = some r) (R : Rel B N nt J s a w) (hd : ∀ d, o.dst = some d → d < nt) {f : FV} {s' : St} (h : slcK s i.size p q r = some (f, s')) : Sim P B N nt o J s a w f s' := by
  have hexec : ∀ {v : Value}, (Instr.sliceAt t (a.eval x1) (lo.map a.eval) (hi.map a.eval) none).run P w = .ok v w → (execOp a.eval o).run P w = .ok (.value v) w := fun {v} hv => by
    simp only [execOp, hop]
    exact run_value hv
  unfold slcK at h
  split at h
  · rename_i e1
    have hr := opx R h1 e1
    generalize hv : a.eval x1 = c at hr
    split at h
    · rename_i l' h' b1 b2
      split at h
      · rename_i hc
        obtain ⟨rfl, rfl⟩ := hc
        simp only [St.val] at h; cases h
        cases hr
        refine .of_val R hd (hexec (v := .slice none 0 0) ?_) .nsl
        rw [hv, run_slice_opt ht hi' none 0 0 _ _ 0 0 (opt_map (opbnd R h2 b1)) (by have := opt_map (opbnd R h3 b2); simpa using this) (by omega) (by omega) (by omega)]
        simp [sliced]
      · cases h
    · cases h
  · rename_i id off ez len cap e1
    have hr := opx R h1 e1
    generalize hv : a.eval x1 = c at hr
    split at h
    · rename_i l' h' b1 b2
      split at h
      · rename_i hc
        obtain ⟨rfl, c1, c2, c3, c4⟩ := hc
        simp only [St.val] at h; cases h
        cases hr with
        | sl _ _ _ _ _ o2 a2 ccap g1 g2 g3 g4 g5 =>
          have hcap : h' ≤ (ccap : Int) := by
            rcases c3 with c3 | c3
            · omega
            · have q1 : h' * (i.size : Int) ≤ (ccap : Int) * (i.size : Int) := by
                have : ((cap : Nat) : Int) ≤ ((ccap * i.size : Nat) : Int) := by omega
                rw [Int.natCast_mul] at this
                omega
              exact Int.le_of_mul_le_mul_right q1 (by omega)
          have hsub : cap - l'.toNat * i.size ≤ (ccap - l'.toNat) * i.size := by rw [Nat.sub_mul]; omega
          refine .of_val R hd (hexec (v := sliced (some a2) l'.toNat h'.toNat ccap i.size) ?_) ?_
          · rw [hv, run_slice_opt ht hi' (some a2) len ccap _ _ l' h' (opt_map (opbnd R h2 b1)) (opt_map (opbnd R h3 b2)) c1 c2 hcap]
          · have hs : sliced (some a2) l'.toNat h'.toNat ccap i.size = .slice (some (if ccap = l'.toNat then a2 else a2.add (l'.toNat * i.size))) (h'.toNat - l'.toNat) (ccap - l'.toNat) := by
              unfold sliced
              split <;> rfl
            rw [hs]
            refine .sl id _ _ _ _ o2 _ _ g1 (by omega) (by omega) hsub fun e => ?_
            obtain ⟨l, hl, ha⟩ := g5 (by omega)
            refine ⟨l, hl, ?_⟩
            by_cases hcl : ccap = l'.toNat
            · left; omega
            · right
              rcases ha with ⟨ha, hb⟩ | ⟨ha, hb⟩
              · omega
              · rw [if_neg hcl, ha, Addr.add_lit]
                refine ⟨by congr 1; omega, ?_⟩
                rw [Nat.sub_mul]
                have : l'.toNat * i.size ≤ ccap * i.size := Nat.mul_le_mul_right _ (by omega)
                omega
      · cases h
    · cases h
  · cases h

theorem run_sliceS_opt {t : TypeId} (ht : P.underlying t = some .string) (b : ByteArray) (lo hi' : Option Value) (l h : Int)
    (hlo : (lo = none ∧ l = 0) ∨ ∃ k, lo = some (.int k l)) (hhi : (hi' = none ∧ h = b.size) ∨ ∃ k, hi' = some (.int k h)) (h0 : 0 ≤ l) (h1 : l ≤ h) (h2 : h ≤ (b.size : Int)) :
    (Instr.slice t (.string b) lo hi' none).run P w = .ok (.string (b.extract l.toNat h.toNat)) w := by
  have eh : (h.toNat : Int) = h := Int.toNat_of_nonneg (by omega)
  have hh : 0 ≤ h := by omega
  rcases hlo with ⟨rfl, rfl⟩ | ⟨k, rfl⟩ <;> rcases hhi with ⟨rfl, rfl⟩ | ⟨k', rfl⟩ <;> simp [Instr.slice, run_underlying ht, Instr.sliceBounds, run_sliceBound, *]

theorem sim_slcS {t : TypeId} {x1 : Operand} {lo hi : Option Operand} {p : X} {q r : Option X} (hop : o.op = .slice t x1 lo hi none) (ht : P.underlying t = some .string)
    (h1 : cx x1 = some p) (h2 : cxo lo = some q) (h3 : cxo hi = some r) (R : Rel B N nt J s a w) (hd : ∀ d, o.dst = some d → d < nt) {f : FV} {s' : St} (h : slcSK s p q r = some (f, s')) : Sim P B N nt o J s a w f s' := by
  unfold slcSK at h
  split at h
  · rename_i b e1
    split at h
    · rename_i l' h' b1 b2
      split at h
      · rename_i hc
        obtain ⟨c1, c2, c3⟩ := hc
        simp only [St.val] at h; cases h
        refine .of_val R hd ?_ (.str _)
        simp only [execOp, hop, (opx R h1 e1).str_inv]
        refine run_value ?_
        rw [run_sliceAt_string w t _ _ _ _ ht]
        show (Instr.slice t (.string b) (lo.map a.eval) (hi.map a.eval) none).run P w = _
        rw [run_sliceS_opt ht b _ _ l' h' (opt_map (opbnd R h2 b1)) (opt_map (opbnd R h3 b2)) c1 c2 c3]
      · cases h
    · cases h
  · cases h

/-- Parts laid into cells: Go's way and the machine's. -/
theorem foldl_spl (off : Nat) : ∀ (l : List Value) (k : Nat) (cells : Array Value), ((l.zipIdx k).foldl (fun cs (p : Value × Nat) => cs.setIfInBounds (off + p.2) p.1) cells).toList = spl cells.toList (off + k) l
  | [], _, _ => rfl
  | v :: l, k, cells => by
    rw [List.zipIdx_cons, List.foldl_cons, foldl_spl off l (k + 1), spl]
    simp
    rfl

theorem fill_ok {place : Nat → Option (Nat × Nat)} : ∀ {ps : List (Nat × Nat × Value)} {qs : List (Nat × Value)} {zs : List Value} {ds : Array Value} {cs : List Value}, LRel J s.H zs ds.toList → (∀ v ∈ zs, v.oneCell' = true) → ps.length = qs.length →
    (∀ (j : Nat) (p : Nat × Nat × Value) (q : Nat × Value), ps[j]? = some p → qs[j]? = some q → place q.1 = some (p.1, p.2.1) ∧ VRel J s.H p.2.2 q.2) → fillL zs ps = some cs →
    ∃ ds', Instr.fill place ds qs = some ds' ∧ LRel J s.H cs ds'.toList ∧ (∀ v ∈ cs, v.oneCell' = true)
  | [], [], zs, ds, cs, hz, h1, _, _, h => by
    simp only [fillL] at h; cases h
    exact ⟨ds, rfl, hz, h1⟩
  | p :: ps, q :: qs, zs, ds, cs, hz, h1, hl, hpq, h => by
    obtain ⟨off, n, v⟩ := p
    obtain ⟨i, c⟩ := q
    obtain ⟨hp, hv⟩ := hpq 0 _ _ rfl rfl
    simp only [fillL] at h
    split at h
    · rename_i vs hvs
      split at h
      · rename_i hc
        obtain ⟨r1, r2⟩ := hv.vc hvs
        have hsz : c.cells.size = n := by rw [← Array.length_toList, ← r1.1, hc.1]
        have hds : ds.size = zs.length := by rw [hz.1, Array.length_toList]
        have hfold := foldl_spl off c.cells.toList 0 ds
        have heq : (c.cells.zipIdx.foldl (fun cs (p : Value × Nat) => cs.setIfInBounds (off + p.2) p.1) ds).toList = spl ds.toList off c.cells.toList := by
          rw [← Array.foldl_toList, Array.toList_zipIdx]
          exact hfold
        obtain ⟨ds', f1, f2, f3⟩ := fill_ok (place := place) (ps := ps) (qs := qs) (zs := spl zs off vs) (ds := c.cells.zipIdx.foldl (fun cs (p : Value × Nat) => cs.setIfInBounds (off + p.2) p.1) ds)
          (by rw [heq]; exact LRel.spl r1 hz off) (fun x hx => by
            obtain ⟨j, hj⟩ := List.getElem?_of_mem hx
            rw [spl_get] at hj
            split at hj
            · split at hj
              · exact r2 x (List.mem_of_getElem? hj)
              · cases hj
            · exact h1 x (List.mem_of_getElem? hj)) (by simpa using hl) (fun j p q hp hq => hpq (j + 1) p q hp hq) h
        refine ⟨ds', ?_, f2, f3⟩
        simp only [Instr.fill]
        simp only at hp
        rw [hp]
        simp only
        rw [if_neg (by simp; omega)]
        exact f1
      · cases h
    · cases h
  | [], _ :: _, _, _, _, _, _, hl, _, _ => by simp at hl
  | _ :: _, [], _, _, _, _, _, hl, _, _ => by simp at hl

theorem exps_ok (R : Rel B N nt J s a w) : ∀ {ps : List (Nat × Nat × X)} {vs : List (Nat × Nat × Value)}, exps s.ρ ps = some vs → ps.length = vs.length ∧
    ∀ (j : Nat) (v : Nat × Nat × Value), vs[j]? = some v → ∃ p, ps[j]? = some p ∧ p.1 = v.1 ∧ p.2.1 = v.2.1 ∧ exv s.ρ p.2.2 = some v.2.2
  | [], vs, h => by
    simp only [exps] at h; cases h
    exact ⟨rfl, fun j v hv => by simp at hv⟩
  | (o1, n1, x) :: ps, vs, h => by
    simp only [exps] at h
    split at h
    · rename_i v vs' e1 e2
      cases h
      obtain ⟨i1, i2⟩ := exps_ok R e2
      refine ⟨by simp [i1], fun j v hv => ?_⟩
      cases j with
      | zero => simp at hv; subst hv; exact ⟨_, rfl, rfl, rfl, e1⟩
      | succ j => exact i2 j v (by simpa using hv)
    · cases h

theorem zeros_get (n : Nat) (z : List Value) : (madeCells z.toArray (n * z.length)).toList = zeros n z := by
  apply List.ext_getElem?
  intro j
  unfold madeCells zeros
  rcases Nat.eq_zero_or_pos z.length with h0 | h0
  · have : z = [] := List.eq_nil_of_length_eq_zero h0
    subst this
    simp
  · by_cases hj : j < n * z.length
    · have hm : j % z.length < z.length := Nat.mod_lt _ h0
      have hd : j / z.length < n := Nat.div_lt_of_lt_mul (by rw [Nat.mul_comm]; exact hj)
      have hlen : ((List.replicate n z).flatten).length = n * z.length := by simp
      have hright : ((List.replicate n z).flatten)[j]? = some z[j % z.length] := by
        clear hlen
        induction n generalizing j with
        | zero => omega
        | succ n ih =>
          rw [List.replicate_succ, List.flatten_cons]
          by_cases hjz : j < z.length
          · rw [List.getElem?_append_left hjz]
            simp only [Nat.mod_eq_of_lt hjz]
            exact List.getElem?_eq_getElem hjz
          · rw [List.getElem?_append_right (by omega)]
            have hj' : j - z.length < n * z.length := by rw [Nat.succ_mul] at hj; omega
            have hm' : (j - z.length) % z.length = j % z.length := (Nat.mod_eq_sub_mod (by omega)).symm
            rw [ih _ hj' (Nat.mod_lt _ h0) (Nat.div_lt_of_lt_mul (by rw [Nat.mul_comm]; exact hj'))]
            simp only [hm']
      rw [hright]
      simp [hj, hm]
    · have : ((List.replicate n z).flatten).length ≤ j := by simp; omega
      rw [List.getElem?_eq_none this]
      simp [hj]

theorem zeros_length (n : Nat) (z : List Value) : (zeros n z).length = n * z.length := by simp [zeros]
theorem zeros_scal {n : Nat} {z : List Value} (h : z.all scal = true) : (zeros n z).all scal = true := by
  rw [List.all_eq_true] at h ⊢
  intro x hx
  unfold zeros at hx
  obtain ⟨l, h1, h2⟩ := List.mem_flatten.1 hx
  rw [List.eq_of_mem_replicate h1] at h2
  exact h x h2

theorem made_eq {n : Nat} {z : List Value} {zv : Value} {k : Nat} (h3 : zv.cells.toList = z) (h4 : z.length = k) : (madeCells zv.cells (n * k)).toList = zeros n z := by
  rw [← zeros_get, ← h4]
  congr 2
  rw [← h3]

theorem run_newObjA (ob : Obj) : (newObj ob).run P w = .ok w.heap.size (w.alloc ob) := rfl

/-- The cells that 'buildSlice' lays. -/
theorem mk_ok (R : Rel B N nt J s a w) {t e : TypeId} {len : Nat} {ps : Array (Nat × Operand)} {z : List Value} {xs : List (Nat × X)} (ht : P.underlying t = some (.slice e)) (hz : zeroI P e = some z)
    (hxs : ps.toList.mapM (fun p => do pure (p.1, ← cx p.2)) = some xs) (hbig : len * z.length ≤ 16777216) {cs : List Value} (hcs : mkCells s len z.length z xs = some cs) :
    ∃ ds, (Instr.buildSlice t len (ps.map fun (i, x) => (i, a.eval x))).run P w = .ok (.slice (some ⟨w.heap.size, 0, none⟩) len len) (w.alloc (.cells ds e)) ∧ LRel J s.H cs ds.toList ∧ (∀ v ∈ cs, v.oneCell' = true) := by
  obtain ⟨i, zv, z1, z2, z3, z4, z5, z6⟩ := zeroI_spec hz
  unfold mkCells at hcs
  split at hcs
  · rename_i vs hvs
    obtain ⟨l1, l2⟩ := exps_ok R hvs
    have hmap : ∀ {l : List (Nat × Operand)} {ys : List (Nat × X)}, l.mapM (fun p => do pure (p.1, ← cx p.2)) = some ys → l.length = ys.length ∧ ∀ (j : Nat) (y : Nat × X), ys[j]? = some y → ∃ p, l[j]? = some p ∧ p.1 = y.1 ∧ cx p.2 = some y.2 := by
      intro l
      induction l with
      | nil => intro ys h; simp at h; subst h; exact ⟨rfl, fun j y hy => by simp at hy⟩
      | cons p l ih =>
        intro ys h
        rw [List.mapM_cons] at h
        simp only [Option.bind_eq_bind, Option.bind_eq_some_iff, Option.pure_def] at h
        obtain ⟨y, ⟨y2, hy2, hy⟩, ys', hys, he⟩ := h
        cases he
        cases hy
        obtain ⟨k1, k2⟩ := ih hys
        refine ⟨by simp [k1], fun j y hj => ?_⟩
        cases j with
        | zero => simp at hj; subst hj; exact ⟨p, rfl, rfl, hy2⟩
        | succ j => exact k2 j y (by simpa using hj)
    obtain ⟨m1, m2⟩ := hmap hxs
    have hzz : LRel J s.H (zeros len z) (madeCells zv.cells (len * i.size)).toList := by
      rw [made_eq z3 z4]
      exact LRel.scal (zeros_scal z5)
    obtain ⟨ds', f1, f2, f3⟩ := fill_ok (place := fun j => some (j * i.size, i.size)) (qs := (ps.map fun (i, x) => (i, a.eval x)).toList) hzz (one_zero (zeros_scal z5)) (by simp at l1 m1 ⊢; omega) (fun j p q hp hq => by
      obtain ⟨p', hp1, hp2, hp3, hp4⟩ := l2 j p hp
      rw [List.getElem?_map] at hp1
      cases hy : xs[j]? with
      | none => simp [hy] at hp1
      | some y =>
        simp [hy] at hp1
        subst hp1
        obtain ⟨p0, g1, g2, g3⟩ := m2 j y hy
        have hg : ps[j]? = some p0 := by simpa using g1
        simp [hg] at hq
        subst hq
        simp only at hp2 hp3 hp4 ⊢
        exact ⟨by rw [← hp2, ← hp3, ← g2, z4], opx R g3 hp4⟩) hcs
    refine ⟨ds', ?_, f2, f3⟩
    have hn : ¬ (len * i.size > 2 ^ 24) := by rw [← z4]; omega
    simp only [Instr.buildSlice, Sem.run_bind, run_underlying ht, Result.andThen_ok, run_sizeOf' z1, Sem.run_ite, hn, if_false, Sem.run_pure]
    by_cases h0 : len * i.size = 0
    · have hmade : (Array.range (len * i.size)).map (fun x => (#[] : Array Value)[x % (#[] : Array Value).size]!) = madeCells zv.cells (len * i.size) := by
        unfold madeCells
        rw [h0]
        simp
      rw [if_pos h0, hmade]
      simp only [f1, newRow, Sem.run_bind, Sem.run_pure, run_newObjA, Result.andThen_ok]
    · rw [if_neg h0]
      have hmade : (Array.range (len * i.size)).map (fun x => zv.cells[x % zv.cells.size]!) = madeCells zv.cells (len * i.size) := rfl
      simp only [zeroValue, typeInfo, Sem.run_bind, run_program, Result.andThen_ok, z1, z2, Sem.run_pure, hmade, f1, newRow, run_newObjA]
  · cases hcs

end
end Go.Proofs.Ytdplmjlbkaipiaa.Ev
