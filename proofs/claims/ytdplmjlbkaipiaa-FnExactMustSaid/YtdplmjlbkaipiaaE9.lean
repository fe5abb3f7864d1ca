/- Each operation of the small machine is Go's own: append, copy, clear. -/
import Derived.Test.YtdplmjlbkaipiaaE8
namespace Go.Proofs.Ytdplmjlbkaipiaa.Ev
set_option linter.all false
open Go

section
variable {P : Program} {B N nt : Nat} {o : Oper} {J : Inj} {s : St} {a : Act} {w : World}

theorem run_app_room {t t2 e e2 ty : TypeId} {i : TypeInfo} (ht : P.underlying t = some (.slice e)) (ht2 : P.underlying t2 = some (.slice e2)) (hi : P.info? e = some i) {base sb : Option Addr} {sLen sCap n c : Nat} {news : List Value} {w' : World}
    (hroom : sLen + n ≤ sCap) (hf : (Builtin.firstCells i.size n (.slice sb n c)).run P w = .ok news.toArray w)
    (hs : (∃ p, base = some p ∧ (storeCells (p.add (sLen * i.size)) news).run P w = .ok () w') ∨ base = none ∧ w' = w) :
    (Builtin.append_ #[t, t2] ty #[.slice base sLen sCap, .slice sb n c]).run P w = .ok (.slice base (sLen + n) sCap) w' := by
  rcases hs with ⟨p, rfl, hs⟩ | ⟨rfl, rfl⟩
  · simp [Builtin.append_, run_underlying ht, run_underlying ht2, sizeOf, typeInfo, hi, Builtin.lenOf, hroom, hf, hs]
  · simp [Builtin.append_, run_underlying ht, run_underlying ht2, sizeOf, typeInfo, hi, Builtin.lenOf, hroom, hf]

theorem run_app_grow {t t2 e e2 ty : TypeId} {i : TypeInfo} {z : Value} (ht : P.underlying t = some (.slice e)) (ht2 : P.underlying t2 = some (.slice e2)) (hi : P.info? e = some i) (hz : i.zero = some z) {base sb : Option Addr} {sLen sCap n c : Nat} {olds news : List Value}
    (hroom : sCap < sLen + n) (ho : (Builtin.firstCells i.size sLen (.slice base sLen sCap)).run P w.drew = .ok olds.toArray w.drew) (hf : (Builtin.firstCells i.size n (.slice sb n c)).run P w.drew = .ok news.toArray w.drew)
    (hb : i.bytes ≠ 0) (h1 : (sLen + n) * i.bytes ≤ 140737488355328) (h2 : sLen + n ≤ 140737488355328) :
    (Builtin.append_ #[t, t2] ty #[.slice base sLen sCap, .slice sb n c]).run P w =
      .ok (.slice (some ⟨w.heap.size, 0, none⟩) (sLen + n) (grownCap w (sLen + n) sCap e)) (w.drew.alloc (.cells (olds ++ news ++ (Builtin.zeroCells z.cells (grownCap w (sLen + n) sCap e - (sLen + n))).toList).toArray e)) := by
  have hn : ¬ (sLen + n ≤ sCap) := by omega
  have h63 : ¬ ((9223372036854775807 : Int) < (sLen : Int) + (n : Int)) := by omega
  have h48 : ¬ (281474976710656 < Builtin.nextslicecap (sLen + n) sCap * i.bytes) := by have := growslice_fits hroom h1; omega
  simp [Builtin.append_, run_underlying ht, run_underlying ht2, sizeOf, typeInfo, zeroValue, hi, hz, Builtin.lenOf, hn, h63, h48, hb, Question.forced, hf, ho, newRow, grownCap]
  congr 2
  apply Array.ext'
  simp

theorem grownCap_le (w : World) (need old : Nat) (e : TypeId) : need ≤ grownCap w need old e := by
  simp only [grownCap, Question.cut]
  exact Nat.le_add_right _ _

theorem zeroCells_size (z : Array Value) (n : Nat) : (Builtin.zeroCells z n).size = n * z.size := by simp [Builtin.zeroCells]

theorem sim_app {m : Md} (hm : ∀ id, m.wr id = true → B ≤ id) {c : Call} {x1 x2 : Operand} {p q : X} {t t2 e e2 : TypeId} {i : TypeInfo} {z : List Value} (hop : o.op = .call c) (hb : c.callee = .builtin .append) (ha : c.args.toList = [x1, x2])
    (hat : c.argTypes[0]? = some t) (hat2 : c.argTypes[1]? = some t2) (ht : P.underlying t = some (.slice e)) (ht2 : P.underlying t2 = some (.slice e2)) (hi : P.info? e = some i) (hz : zeroI P e = some z) (hby : i.bytes ≠ 0)
    (h1 : cx x1 = some p) (h2 : cx x2 = some q) (R : Rel B N nt J s a w) (hB : B ≤ s.H.length) (hd : ∀ d, o.dst = some d → d < nt) {f : FV} {s' : St} (h : appK m s i.size i.bytes p q = some (f, s')) : Sim P B N nt o J s a w f s' := by
  have haa : c.args = #[x1, x2] := by apply Array.toList_inj.1; rw [ha]
  obtain ⟨i', zv, z1, z2, z3, z4, z5, z6⟩ := zeroI_spec hz
  rw [hi] at z1; cases z1
  have hsz : zv.cells.size = i.size := by rw [← Array.length_toList, z3, z4]
  have hargs : ∀ (ty : TypeId) (v1 v2 : Value), Builtin.append_ c.argTypes ty #[v1, v2] = Builtin.append_ #[t, t2] ty #[v1, v2] := fun ty v1 v2 => by
    simp [Builtin.append_, hat, hat2]
  have hexec : ∀ {v1 v2 v : Value} {w' : World}, a.eval x1 = v1 → a.eval x2 = v2 → (Builtin.append_ #[t, t2] o.type #[v1, v2]).run P w = .ok v w' → (execOp a.eval o).run P w = .ok (.value v) w' := fun {v1 v2 v w'} e1 e2 hr => by
    simp only [execOp, hop, resolve, hb, haa]
    simp only [List.map_toArray, List.map_cons, List.map_nil, e1, e2, Sem.run_bind, Sem.run_pure, Result.andThen_ok, invoke, builtin, hargs, hr]
  unfold appK at h
  split at h
  · rename_i v n cs e1 hsrc
    obtain ⟨sb, sc, hv2, hcl, hc⟩ := src_ok R h2 hsrc
    have hr := opx R h1 e1
    have hfirst : ∃ ds, (∀ w0 : World, w0.heap = w.heap → (Builtin.firstCells i.size n (.slice sb n sc)).run P w0 = .ok ds.toArray w0) ∧ LRel J s.H cs ds ∧ (∀ v ∈ cs, v.oneCell' = true) := by
      rcases hc with ⟨rfl, rfl⟩ | ⟨p', ds, rfl, q1, q2, q3⟩
      · exact ⟨[], fun w0 _ => run_first (.inl ⟨rfl, rfl⟩), .nil, by simp⟩
      · refine ⟨ds, fun w0 hw0 => run_first (.inr ⟨p', rfl, by rw [← q1.1]; exact hcl, fun j v hj => ?_⟩), q1, q2⟩
        have := q3 j v hj
        simp only [World.cell?] at this ⊢
        rw [hw0]
        exact this
    obtain ⟨ds, hf, hds, hone⟩ := hfirst
    split at h
    · rename_i hn0
      subst hn0
      have hdl : ds = [] := by
        apply List.eq_nil_of_length_eq_zero
        rw [← hds.1, hcl]
        simp
      subst hdl
      have hsame : ∀ {base : Option Addr} {sl sc' : Nat}, a.eval x1 = .slice base sl sc' → sl ≤ sc' → (execOp a.eval o).run P w = .ok (.value (.slice base sl sc')) w := fun {base sl sc'} he hle => by
        refine hexec he hv2 ?_
        have := run_app_room (P := P) (w := w) (w' := w) (ty := o.type) ht ht2 hi (base := base) (sLen := sl) (sCap := sc') (by omega) (hf w rfl) (by
          cases base with
          | none => exact .inr ⟨rfl, rfl⟩
          | some p => exact .inl ⟨p, rfl, rfl⟩)
        simpa using this
      split at h
      · simp only [St.val] at h; cases h
        generalize hv1 : a.eval x1 = cv at hr
        cases hr
        exact .of_val R hd (hsame hv1 (Nat.le_refl _)) .nsl
      · simp only [St.val] at h; cases h
        generalize hv1 : a.eval x1 = cv at hr
        cases hr with
        | sl _ _ _ _ _ o2 a2 ccap g1 g2 g3 g4 g5 => exact .of_val R hd (hsame hv1 g3) (.sl _ _ _ _ _ o2 a2 ccap g1 g2 g3 g4 g5)
      · cases h
    · rename_i hn0
      split at h
      · split at h
        · rename_i hle
          cases h
          generalize hv1 : a.eval x1 = cv at hr
          cases hr
          have hroom : room = 140737488355328 := rfl
          have hrun := run_app_grow (P := P) (w := w) (ty := o.type) ht ht2 hi z2 (base := none) (sLen := 0) (sCap := 0) (n := n) (olds := []) (by omega) (run_first (.inl ⟨rfl, rfl⟩)) (hf w.drew rfl) hby (by rw [Nat.zero_add]; omega) (by omega)
          simp only [Nat.zero_add, List.nil_append] at hrun
          have hdl : ds.length = n * i.size := by rw [← hds.1, hcl]
          have hgc := grownCap_le w n 0 e
          refine sim_newrow (t := e) (w0 := w.drew) (lo := 0) (hi := 0) R.drew hB ((Tr.drew J s.H w).mono R.hN) hd (hexec hv1 hv2 hrun) ?_ (fun j x y hx hy => ?_) hone (fun i _ => by omega) fun J' hJ => ?_
          · have := hds.1
            simp
            omega
          · have hj := (List.getElem?_eq_some_iff.1 hx).1
            rw [List.getElem?_toArray, List.getElem?_append_left (by rw [← hds.1]; exact hj)] at hy
            exact hds.2 j x y hx hy
          · refine .sl _ 0 i.size n _ cs _ (grownCap w n 0 e) (by simp) (by omega) hgc (Nat.mul_le_mul_right _ hgc) fun _ => ⟨_, hJ, .inr ⟨rfl, ?_⟩⟩
            simp only [List.size_toArray, List.length_append, Array.length_toList, zeroCells_size, hsz, hdl]
            rw [← Nat.add_mul]
            have : n + (grownCap w n 0 e - n) = grownCap w n 0 e := by omega
            rw [this]
            omega
        · cases h
      · rename_i id off e3 len cap
        split at h
        · rename_i os g0
          split at h
          · rename_i hcnd
            obtain ⟨rfl, hval, hwr, hnr⟩ := hcnd
            generalize hv1 : a.eval x1 = cv at hr
            cases hr with
            | sl _ _ _ _ _ o2 a2 ccap g1 g2 g3 g4 g5 =>
              rw [g0] at g1; cases g1
              obtain ⟨l, hl, hal⟩ := g5 hval
              have hdl : ds.length = n * i.size := by rw [← hds.1, hcl]
              have hmul : ∀ {x y : Nat}, x * i.size ≤ y * i.size → x ≤ y := fun {x y} h => Nat.le_of_mul_le_mul_right h z6
              have hadd : (len + n) * i.size = len * i.size + n * i.size := Nat.add_mul _ _ _
              have hinplace : len + n ≤ ccap → ∀ os', (os' = spl os (off + len * i.size) cs ∧ off + len * i.size + cs.length ≤ os.length ∨ os' = os.take (off + len * i.size) ++ cs ∧ os.length < off + len * i.size + cs.length ∧ off + len * i.size ≤ os.length) →
                  ∀ cap', off + cap' = os'.length → cap' ≤ ccap * i.size → Sim P B N nt o J s a w (.val (.slice (some ⟨id, off, some i.size⟩) (len + n) cap')) { s with H := s.H.set id os' } := fun hle os' hos' cap' hcap' hcc => by
                rcases hal with ⟨ha1, ha2⟩ | ⟨ha1, ha2⟩
                · rw [ha1, ha2, Nat.zero_add] at hle
                  exact absurd (Nat.le_zero.1 hle) hn0
                · have hm2 : (len + n) * i.size ≤ ccap * i.size := Nat.mul_le_mul_right _ hle
                  have hin : l.sh + (off + len * i.size) + cs.length ≤ l.sz := by omega
                  obtain ⟨r1, r2, r3⟩ := row_store (P := P) R.wr (i := off + len * i.size) g0 hl (hm id hwr) hds hone hin hos'
                  have hrun := run_app_room (P := P) (w := w) (ty := o.type) ht ht2 hi (base := some a2) (sLen := len) (sCap := ccap) hle (hf w rfl) (.inl ⟨a2, rfl, by rw [ha1, Addr.add_lit, show l.sh + off + len * i.size = l.sh + (off + len * i.size) by omega]; exact r1⟩)
                  have R1 := R.move r2 r3
                  refine ⟨_, _, _, J, hexec hv1 hv2 hrun, .inl rfl, r2.mono R.hN, R1.put_val (s := { s with H := s.H.set id os' }) hd ?_⟩
                  have hid := (List.getElem?_eq_some_iff.1 g0).1
                  exact .sl id off i.size _ cap' os' a2 ccap (by simp [hid]) (by omega) hle hcc fun _ => ⟨l, hl, .inr ⟨ha1, ha2⟩⟩
              split at h
              · rename_i hfit
                cases h
                have hle : len + n ≤ ccap := hmul (Nat.le_trans hfit g4)
                exact hinplace hle _ (.inl ⟨rfl, by omega⟩) cap (by rw [spl_length]; exact hval) g4
              · rename_i hfit
                split at h
                · rename_i hgr
                  obtain ⟨rfl, hlo, hb1, hb2⟩ := hgr
                  cases h
                  have hroom : room = 140737488355328 := rfl
                  by_cases hle : len + n ≤ ccap
                  · have := hinplace hle (os.take (len * i.size) ++ cs) (.inr ⟨by simp, by omega, by omega⟩) ((len + n) * i.size) (by simp; omega) (Nat.mul_le_mul_right _ hle)
                    exact this
                  · obtain ⟨l', dsr, e', lo', hi', b1, b2, b3, b4, b5, b6⟩ := R.wr.row _ _ g0
                    rw [hl] at b1; cases b1
                    have holds : ∃ olds : List Value, (Builtin.firstCells i.size len (.slice (some a2) len ccap)).run P w.drew = .ok olds.toArray w.drew ∧ LRel J s.H (os.take (len * i.size)) olds ∧ olds.length = len * i.size := by
                      rcases hal with ⟨ha1, ha2⟩ | ⟨ha1, ha2⟩
                      · subst ha1
                        exact ⟨[], run_first (.inl ⟨rfl, rfl⟩), by simp; exact .nil, by simp⟩
                      · refine ⟨(dsr.toList.drop l.sh).take (len * i.size), run_first (.inr ⟨a2, rfl, by simp; omega, fun j v hj => ?_⟩), ⟨by simp; omega, fun j x y hx hy => ?_⟩, by simp; omega⟩
                        · rw [List.getElem?_take] at hj
                          split at hj
                          · rw [List.getElem?_drop] at hj
                            rw [ha1, Addr.add_lit]
                            simp only [World.cell?, World.drew, b2]
                            simpa using hj
                          · cases hj
                        · rw [List.getElem?_take] at hx hy
                          split at hx
                          · rename_i hj
                            rw [if_pos hj, List.getElem?_drop] at hy
                            obtain ⟨_, dd, hdd, hrr⟩ := b5 _ x hx
                            have : dd = y := by
                              rw [Array.getElem?_toList, hdd] at hy
                              exact Option.some.inj hy
                            subst this
                            exact hrr
                          · cases hx
                    obtain ⟨olds, ho1, ho2, ho3⟩ := holds
                    have hrun := run_app_grow (P := P) (w := w) (ty := o.type) ht ht2 hi z2 (base := some a2) (sLen := len) (sCap := ccap) (n := n) (by omega) ho1 (hf w.drew rfl) hby (by omega) (by omega)
                    have hgc := grownCap_le w (len + n) ccap e
                    have htot : (olds ++ ds ++ (Builtin.zeroCells zv.cells (grownCap w (len + n) ccap e - (len + n))).toList).toArray.size = grownCap w (len + n) ccap e * i.size := by
                      simp only [List.size_toArray, List.length_append, Array.length_toList, zeroCells_size, hsz, ho3, hdl]
                      rw [← Nat.add_mul, ← Nat.add_mul]
                      congr 1
                      omega
                    have hlr := ho2.append hds
                    have htk : (os.take (len * i.size)).length = len * i.size := by simp; omega
                    have R0 := R.drew
                    obtain ⟨q1, q2⟩ := row_grow (w := w.drew) R0.wr (o' := os.take (len * i.size) ++ cs) (ds := (olds ++ ds ++ (Builtin.zeroCells zv.cells (grownCap w (len + n) ccap e - (len + n))).toList).toArray) e g0 (hm id hwr) (by rw [List.length_append, htk, hcl]; omega)
                      (by rw [htot, List.length_append, htk, hcl, ← Nat.add_mul]; exact Nat.mul_le_mul_right _ hgc) (fun j v hj => by
                        obtain ⟨y, hy, hrr⟩ := hlr.get hj
                        refine ⟨?_, y, ?_, hrr⟩
                        · rcases List.mem_append.1 (List.mem_of_getElem? hj) with hv | hv
                          · obtain ⟨k, hk⟩ := List.getElem?_of_mem (List.mem_of_mem_take hv)
                            exact (b5 k v hk).1
                          · exact hone v hv
                        · rw [List.getElem?_toArray, List.getElem?_append_left (List.getElem?_eq_some_iff.1 hy).1]
                          exact hy)
                    have hJ : ∀ L : Loc, (J.add id L) id = some L := fun L => by simp [Inj.add]
                    have R1 := R0.move q1 q2
                    refine ⟨_, _, _, _, hexec hv1 hv2 hrun, .inl rfl, ((Tr.drew J s.H w).mono R.hN).trans (q1.mono R.hN), R1.put_val (s := { s with H := s.H.set id (os.take (len * i.size) ++ cs) }) hd ?_⟩
                    have hid := (List.getElem?_eq_some_iff.1 g0).1
                    refine .sl id 0 i.size _ _ (os.take (len * i.size) ++ cs) _ (grownCap w (len + n) ccap e) (by simp [hid]) (by rw [List.length_append, htk, hcl]; omega) hgc (Nat.mul_le_mul_right _ hgc) fun _ => ⟨_, hJ _, .inr ⟨rfl, by simp only [htot]; omega⟩⟩
                · cases h
          · cases h
        · cases h
      · cases h
  · cases h

theorem set_self {α : Type} {l : List α} {i : Nat} {v : α} (h : l[i]? = some v) : l.set i v = l := by
  apply List.ext_getElem?
  intro j
  rw [List.getElem?_set]
  split
  · rename_i e
    subst e
    split
    · exact h.symm
    · rename_i hl
      rw [List.getElem?_eq_none (by omega)]
  · rfl

theorem sim_cpy {m : Md} (hm : ∀ id, m.wr id = true → B ≤ id) {c : Call} {x1 x2 : Operand} {p q : X} {t e : TypeId} {i : TypeInfo} (hop : o.op = .call c) (hb : c.callee = .builtin .copy) (ha : c.args.toList = [x1, x2])
    (hat : c.argTypes[0]? = some t) (ht : P.underlying t = some (.slice e)) (hi : P.info? e = some i)
    (h1 : cx x1 = some p) (h2 : cx x2 = some q) (R : Rel B N nt J s a w) (hd : ∀ d, o.dst = some d → d < nt) {f : FV} {s' : St} (h : cpyK m s i.size p q = some (f, s')) : Sim P B N nt o J s a w f s' := by
  have haa : c.args = #[x1, x2] := by apply Array.toList_inj.1; rw [ha]
  have hexec : ∀ {base sb : Option Addr} {dLen dc n sc : Nat} {ds : List Value} {w' : World}, a.eval x1 = .slice base dLen dc → a.eval x2 = .slice sb n sc → (Builtin.firstCells i.size (min n dLen) (.slice sb n sc)).run P w = .ok ds.toArray w →
      ((∃ p, base = some p ∧ (storeCells p ds).run P w = .ok () w') ∨ base = none ∧ w' = w) → (execOp a.eval o).run P w = .ok (.value (goInt (min n dLen : Nat))) w' := fun {base sb dLen dc n sc ds w'} e1 e2 hf hs => by
    simp only [execOp, hop, resolve, hb, haa]
    rcases hs with ⟨p, rfl, hs⟩ | ⟨rfl, rfl⟩
    · simp [invoke, builtin, Builtin.copy_, hat, e1, e2, run_underlying ht, Builtin.lenOf, run_sizeOf' hi, hf, hs]
    · simp [invoke, builtin, Builtin.copy_, hat, e1, e2, run_underlying ht, Builtin.lenOf, run_sizeOf' hi, hf]
  unfold cpyK at h
  split at h
  · rename_i nc e1 hsrc
    obtain ⟨n, cs⟩ := nc
    simp only [St.val] at h; cases h
    obtain ⟨sb, sc, hv2, hcl, hc⟩ := src_ok R h2 hsrc
    have hr := opx R h1 e1
    generalize hv1 : a.eval x1 = cv at hr
    cases hr
    refine .of_val R hd (v := goInt (min n 0 : Nat)) (hexec (ds := []) hv1 hv2 ?_ (.inr ⟨rfl, rfl⟩)) ?_
    · rw [Nat.min_zero]
      cases sb with
      | none => exact run_firstCells_none w _ _ _ _
      | some p => exact run_firstCells_some w _ 0 p n sc [] (by simp) (by simp)
    · rw [Nat.min_zero]; exact .int _ _
  · rename_i id off e3 len cap n cs e1 hsrc
    obtain ⟨sb, sc, hv2, hcl, hc⟩ := src_ok R h2 hsrc
    have hr := opx R h1 e1
    split at h
    · rename_i os g0
      split at h
      · rename_i hcnd
        obtain ⟨rfl, hval, hwr, hnr, hlc⟩ := hcnd
        cases h
        generalize hv1 : a.eval x1 = cv at hr
        cases hr with
        | sl _ _ _ _ _ o2 a2 ccap g1 g2 g3 g4 g5 =>
          rw [g0] at g1; cases g1
          obtain ⟨l, hl, hal⟩ := g5 hval
          have hmin : min n len ≤ n := Nat.min_le_left _ _
          have hmin2 : min n len ≤ len := Nat.min_le_right _ _
          have hm1 : min n len * i.size ≤ n * i.size := Nat.mul_le_mul_right _ hmin
          have hm2 : min n len * i.size ≤ len * i.size := Nat.mul_le_mul_right _ hmin2
          have hds : ∃ ds : List Value, (Builtin.firstCells i.size (min n len) (.slice sb n sc)).run P w = .ok ds.toArray w ∧ LRel J s.H (cs.take (min n len * i.size)) ds ∧ (∀ v ∈ cs.take (min n len * i.size), v.oneCell' = true) := by
            rcases hc with ⟨rfl, rfl⟩ | ⟨p', ds, rfl, q1, q2, q3⟩
            · refine ⟨[], ?_, by simp; exact .nil, by simp⟩
              rw [Nat.zero_min]
              exact run_first (.inl ⟨rfl, rfl⟩)
            · refine ⟨ds.take (min n len * i.size), run_firstCells_some w _ _ p' n sc _ ?_ fun j v hj => ?_, q1.take _, fun v hv => q2 v (List.mem_of_mem_take hv)⟩
              · have := q1.1
                rw [List.length_take]
                omega
              · rw [List.getElem?_take] at hj
                split at hj
                · exact q3 j v hj
                · cases hj
          obtain ⟨ds, hf, hr2, hone⟩ := hds
          have hlen : (cs.take (min n len * i.size)).length = min n len * i.size := by rw [List.length_take]; omega
          rcases hal with ⟨ha1, ha2⟩ | ⟨ha1, ha2⟩
          · subst ha1
            have hnil : cs.take (min n 0 * i.size) = [] := by simp
            have hdn : ds = [] := by
              apply List.eq_nil_of_length_eq_zero
              rw [← hr2.1, hnil]
              rfl
            subst hdn
            rw [hnil]
            refine ⟨_, _, w, J, hexec hv1 hv2 hf (.inl ⟨a2, rfl, rfl⟩), .inl rfl, ?_, ?_⟩
            · simp only [spl]
              rw [set_self g0]
              exact .refl _ _ _ _ _
            · simp only [spl]
              rw [set_self g0]
              exact R.put_val hd (.int _ _)
          · have hcc : len * i.size ≤ ccap * i.size := Nat.mul_le_mul_right _ g3
            have hin : l.sh + off + (cs.take (min n len * i.size)).length ≤ l.sz := by rw [hlen]; omega
            obtain ⟨r1, r2, r3⟩ := row_store (P := P) R.wr (i := off) g0 hl (hm id hwr) hr2 hone hin (.inl ⟨rfl, by rw [hlen]; omega⟩)
            have R1 := R.move r2 r3
            refine ⟨_, _, _, J, hexec hv1 hv2 hf (.inl ⟨a2, rfl, by rw [ha1]; exact r1⟩), .inl rfl, r2.mono R.hN, R1.put_val (s := { s with H := s.H.set id (spl os off (cs.take (min n len * i.size))) }) hd (.int _ _)⟩
      · cases h
    · cases h
  · cases h

theorem sim_clr {m : Md} (hm : ∀ id, m.wr id = true → B ≤ id) {c : Call} {x1 : Operand} {p : X} {t e : TypeId} {z : List Value} (hop : o.op = .call c) (hb : c.callee = .builtin .clear) (ha : c.args.toList = [x1])
    (hat : c.argTypes[0]? = some t) (ht : P.underlying t = some (.slice e)) (hz : zeroI P e = some z)
    (h1 : cx x1 = some p) (R : Rel B N nt J s a w) (hd : ∀ d, o.dst = some d → d < nt) {f : FV} {s' : St} (h : clrK m s z.length z p = some (f, s')) : Sim P B N nt o J s a w f s' := by
  have haa : c.args = #[x1] := by apply Array.toList_inj.1; rw [ha]
  obtain ⟨i, zv, z1, z2, z3, z4, z5, z6⟩ := zeroI_spec hz
  have hzc : ∀ n, (Builtin.zeroCells zv.cells n).toList = zeros n z := fun n => by
    rw [← zeros_get]
    have : zv.cells = z.toArray := by rw [← z3]
    rw [this]
    simp [Builtin.zeroCells, madeCells]
  have htup : VRel J s.H (.tuple #[]) (.tuple #[]) := .tup _ _ rfl fun i x y hx => by simp at hx
  have hexec0 : ∀ {base : Option Addr} {n cc : Nat}, a.eval x1 = .slice base n cc → (base = none ∨ n = 0) → (execOp a.eval o).run P w = .ok (.value (.tuple #[])) w := fun {base n cc} e1 h0 => by
    simp only [execOp, hop, resolve, hb, haa]
    rcases h0 with rfl | rfl
    · simp [invoke, builtin, Builtin.clear_, hat, e1, run_underlying ht]
    · cases base <;> simp [invoke, builtin, Builtin.clear_, hat, e1, run_underlying ht]
  unfold clrK at h
  split at h
  · rename_i e1
    simp only [St.val] at h; cases h
    have hr := opx R h1 e1
    generalize hv1 : a.eval x1 = cv at hr
    cases hr
    exact .of_val R hd (hexec0 hv1 (.inl rfl)) htup
  · rename_i id off e3 len cap e1
    have hr := opx R h1 e1
    split at h
    · rename_i os g0
      split at h
      · rename_i hcnd
        obtain ⟨rfl, hval, hwr, hnr, hlc⟩ := hcnd
        cases h
        generalize hv1 : a.eval x1 = cv at hr
        cases hr with
        | sl _ _ _ _ _ o2 a2 ccap g1 g2 g3 g4 g5 =>
          rw [g0] at g1; cases g1
          obtain ⟨l, hl, hal⟩ := g5 hval
          by_cases h0 : len = 0
          · subst h0
            have hnil : zeros 0 z = [] := by simp [zeros]
            rw [hnil]
            refine ⟨_, _, w, J, hexec0 hv1 (.inr rfl), .inl rfl, ?_, ?_⟩
            · simp only [spl]
              rw [set_self g0]
              exact .refl _ _ _ _ _
            · simp only [spl]
              rw [set_self g0]
              exact R.put_val hd htup
          · rcases hal with ⟨ha1, ha2⟩ | ⟨ha1, ha2⟩
            · exact absurd ha1 h0
            · have hcc : len * z.length ≤ ccap * z.length := Nat.mul_le_mul_right _ g3
              have hzl := zeros_length len z
              have hin : l.sh + off + (zeros len z).length ≤ l.sz := by rw [hzl]; omega
              have hzs := zeros_scal (n := len) z5
              obtain ⟨r1, r2, r3⟩ := row_store (P := P) R.wr (i := off) g0 hl (hm id hwr) (LRel.scal hzs) (one_zero hzs) hin (.inl ⟨rfl, by rw [hzl]; omega⟩)
              have R1 := R.move r2 r3
              have hrun : (execOp a.eval o).run P w = .ok (.value (.tuple #[])) (w.setCells l.b (l.sh + off) (zeros len z)) := by
                simp only [execOp, hop, resolve, hb, haa]
                obtain ⟨n', rfl⟩ : ∃ n', len = n' + 1 := ⟨len - 1, by omega⟩
                simp [invoke, builtin, Builtin.clear_, hat, hv1, run_underlying ht, zeroValue, typeInfo, z1, z2, hzc, ha1, r1]
              exact ⟨_, _, _, J, hrun, .inl rfl, r2.mono R.hN, R1.put_val (s := { s with H := s.H.set id (spl os off (zeros len z)) }) hd (.tup _ _ rfl fun i x y hx => by simp at hx)⟩
      · cases h
    · cases h
  · cases h

end
end Go.Proofs.Ytdplmjlbkaipiaa.Ev
