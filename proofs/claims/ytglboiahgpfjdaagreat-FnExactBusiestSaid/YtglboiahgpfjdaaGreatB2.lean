/- Texts of this proof, laid one behind the other: what each shows stands at its head. -/
import Derived.Test.YtglboiahgpfjdaaGreatB1
import Derived.LoopN
/- Each operation of the small machine is Go's own: append, copy, clear. -/
namespace Go.Proofs.YtglboiahgpfjdaaGreat.Ev
set_option linter.all false
open Go

section
variable {P : Program} {B N nt : Nat} {o : Oper} {J : Inj} {s : St} {a : Act} {w : World}

theorem run_app_room {t t2 e e2 ty : TypeId} {i : TypeInfo} (ht : P.underlying t = some (.slice e)) (ht2 : P.underlying t2 = some (.slice e2)) (hi : P.info? e = some i) {base sb : Option Addr} {sLen sCap n c : Nat} {news : List Value} {w' : World}
    (hroom : sLen + n ≤ sCap) (hf : (Builtin.firstCells i.size n (.slice sb n c)).run P w = .ok news.toArray w)
    (hs : (∃ p, base = some p ∧ (storeCells (p.add (sLen * i.size)) news).run P w = .ok () w') ∨ base = none ∧ w' = w) :
    (Builtin.append_ #[t, t2] ty #[.slice base sLen sCap, .slice sb n c]).run P w = .ok (.slice base (sLen + n) sCap) w' := by
  rcases hs with ⟨p, rfl, hs⟩ | ⟨rfl, rfl⟩
  · simp [Builtin.append_, run_underlying ht, run_underlying ht2, sizeOf, typeInfo, hi, Builtin.lenOf, hroom, hf, hs]
  · simp [Builtin.append_, run_underlying ht, run_underlying ht2, sizeOf, typeInfo, hi, Builtin.lenOf, hroom, hf]

theorem run_app_grow {t t2 e e2 ty : TypeId} {i : TypeInfo} {z : Value} (ht : P.underlying t = some (.slice e)) (ht2 : P.underlying t2 = some (.slice e2)) (hi : P.info? e = some i) (hz : i.zero = some z) {base sb : Option Addr} {sLen sCap n c : Nat} {olds news : List Value}
    (hroom : sCap < sLen + n) (ho : (Builtin.firstCells i.size sLen (.slice base sLen sCap)).run P w.drew = .ok olds.toArray w.drew) (hf : (Builtin.firstCells i.size n (.slice sb n c)).run P w.drew = .ok news.toArray w.drew)
    (hb : i.bytes ≠ 0) (h1 : (sLen + n) * i.bytes ≤ 140737488355328) (h2 : sLen + n ≤ 140737488355328) :
    (Builtin.append_ #[t, t2] ty #[.slice base sLen sCap, .slice sb n c]).run P w =
      .ok (.slice (some ⟨w.heap.size, 0, none⟩) (sLen + n) (grownCap w (sLen + n) sCap e)) (w.drew.alloc (.cells (olds ++ news ++ (Builtin.zeroCells z.cells (grownCap w (sLen + n) sCap e - (sLen + n))).toList).toArray e)) := by
  have hn : ¬ (sLen + n ≤ sCap) := by omega
  have h63 : ¬ ((9223372036854775807 : Int) < (sLen : Int) + (n : Int)) := by omega
  have h48 : ¬ (281474976710656 < Builtin.nextslicecap (sLen + n) sCap * i.bytes) := by have := growslice_fits hroom h1; omega
  simp [Builtin.append_, run_underlying ht, run_underlying ht2, sizeOf, typeInfo, zeroValue, hi, hz, Builtin.lenOf, hn, h63, h48, hb, Question.forced, hf, ho, newRow, grownCap]
  congr 2
  apply Array.ext'
  simp

theorem grownCap_le (w : World) (need old : Nat) (e : TypeId) : need ≤ grownCap w need old e := by
  simp only [grownCap, Question.cut]
  exact Nat.le_add_right _ _

theorem zeroCells_size (z : Array Value) (n : Nat) : (Builtin.zeroCells z n).size = n * z.size := by simp [Builtin.zeroCells]

theorem sim_app {m : Md} (hm : ∀ id, m.wr id = true → B ≤ id) {c : Call} {x1 x2 : Operand} {p q : X} {t t2 e e2 : TypeId} {i : TypeInfo} {z : List Value} (hop : o.op = .call c) (hb : c.callee = .builtin .append) (ha : c.args.toList = [x1, x2])
    (hat : c.argTypes[0]? = some t) (hat2 : c.argTypes[1]? = some t2) (ht : P.underlying t = some (.slice e)) (ht2 : P.underlying t2 = some (.slice e2)) (hi : P.info? e = some i) (hz : zeroI P e = some z) (hby : i.bytes ≠ 0)
    (h1 : cx x1 = some p) (h2 : cx x2 = some q) (R : Rel B N nt J s a w) (hB : B ≤ s.H.length) (hd : ∀ d, o.dst = some d → d < nt) {f : FV} {s' : St} (h : appK m s i.size i.bytes p q = some (f, s')) : Sim P B N nt o J s a w f s' := by
  have haa : c.args = #[x1, x2] := by apply Array.toList_inj.1; rw [ha]
  obtain ⟨i', zv, z1, z2, z3, z4, z5, z6⟩ := zeroI_spec hz
  rw [hi] at z1; cases z1
  have hsz : zv.cells.size = i.size := by rw [← Array.length_toList, z3, z4]
  have hargs : ∀ (ty : TypeId) (v1 v2 : Value), Builtin.append_ c.argTypes ty #[v1, v2] = Builtin.append_ #[t, t2] ty #[v1, v2] := fun ty v1 v2 => by
    simp [Builtin.append_, hat, hat2]
  have hexec : ∀ {v1 v2 v : Value} {w' : World}, a.eval x1 = v1 → a.eval x2 = v2 → (Builtin.append_ #[t, t2] o.type #[v1, v2]).run P w = .ok v w' → (execOp a.eval o).run P w = .ok (.value v) w' := fun {v1 v2 v w'} e1 e2 hr => by
    simp only [execOp, hop, resolve, hb, haa]
    simp only [List.map_toArray, List.map_cons, List.map_nil, e1, e2, Sem.run_bind, Sem.run_pure, Result.andThen_ok, invoke, builtin, hargs, hr]
  unfold appK at h
  split at h
  · rename_i v n cs e1 hsrc
    obtain ⟨sb, sc, hv2, hcl, hc⟩ := src_ok R h2 hsrc
    have hr := opx R h1 e1
    have hfirst : ∃ ds, (∀ w0 : World, w0.heap = w.heap → (Builtin.firstCells i.size n (.slice sb n sc)).run P w0 = .ok ds.toArray w0) ∧ LRel J s.H cs ds ∧ (∀ v ∈ cs, v.oneCell' = true) := by
      rcases hc with ⟨rfl, rfl⟩ | ⟨p', ds, rfl, q1, q2, q3⟩
      · exact ⟨[], fun w0 _ => run_first (.inl ⟨rfl, rfl⟩), .nil, by simp⟩
      · refine ⟨ds, fun w0 hw0 => run_first (.inr ⟨p', rfl, by rw [← q1.1]; exact hcl, fun j v hj => ?_⟩), q1, q2⟩
        have := q3 j v hj
        simp only [World.cell?] at this ⊢
        rw [hw0]
        exact this
    obtain ⟨ds, hf, hds, hone⟩ := hfirst
    split at h
    · rename_i hn0
      subst hn0
      have hdl : ds = [] := by
        apply List.eq_nil_of_length_eq_zero
        rw [← hds.1, hcl]
        simp
      subst hdl
      have hsame : ∀ {base : Option Addr} {sl sc' : Nat}, a.eval x1 = .slice base sl sc' → sl ≤ sc' → (execOp a.eval o).run P w = .ok (.value (.slice base sl sc')) w := fun {base sl sc'} he hle => by
        refine hexec he hv2 ?_
        have := run_app_room (P := P) (w := w) (w' := w) (ty := o.type) ht ht2 hi (base := base) (sLen := sl) (sCap := sc') (by omega) (hf w rfl) (by
          cases base with
          | none => exact .inr ⟨rfl, rfl⟩
          | some p => exact .inl ⟨p, rfl, rfl⟩)
        simpa using this
      split at h
      · simp only [St.val] at h; cases h
        generalize hv1 : a.eval x1 = cv at hr
        cases hr
        exact .of_val R hd (hsame hv1 (Nat.le_refl _)) .nsl
      · simp only [St.val] at h; cases h
        generalize hv1 : a.eval x1 = cv at hr
        cases hr with
        | sl _ _ _ _ _ o2 a2 ccap g1 g2 g3 g4 g5 => exact .of_val R hd (hsame hv1 g3) (.sl _ _ _ _ _ o2 a2 ccap g1 g2 g3 g4 g5)
      · cases h
    · rename_i hn0
      split at h
      · split at h
        · rename_i hle
          cases h
          generalize hv1 : a.eval x1 = cv at hr
          cases hr
          have hroom : room = 140737488355328 := rfl
          have hrun := run_app_grow (P := P) (w := w) (ty := o.type) ht ht2 hi z2 (base := none) (sLen := 0) (sCap := 0) (n := n) (olds := []) (by omega) (run_first (.inl ⟨rfl, rfl⟩)) (hf w.drew rfl) hby (by rw [Nat.zero_add]; omega) (by omega)
          simp only [Nat.zero_add, List.nil_append] at hrun
          have hdl : ds.length = n * i.size := by rw [← hds.1, hcl]
          have hgc := grownCap_le w n 0 e
          refine sim_newrow (t := e) (w0 := w.drew) (lo := 0) (hi := 0) R.drew hB ((Tr.drew J s.H w).mono R.hN) hd (hexec hv1 hv2 hrun) ?_ (fun j x y hx hy => ?_) hone (fun i _ => by omega) fun J' hJ => ?_
          · have := hds.1
            simp
            omega
          · have hj := (List.getElem?_eq_some_iff.1 hx).1
            rw [List.getElem?_toArray, List.getElem?_append_left (by rw [← hds.1]; exact hj)] at hy
            exact hds.2 j x y hx hy
          · refine .sl _ 0 i.size n _ cs _ (grownCap w n 0 e) (by simp) (by omega) hgc (Nat.mul_le_mul_right _ hgc) fun _ => ⟨_, hJ, .inr ⟨rfl, ?_⟩⟩
            simp only [List.size_toArray, List.length_append, Array.length_toList, zeroCells_size, hsz, hdl]
            rw [← Nat.add_mul]
            have : n + (grownCap w n 0 e - n) = grownCap w n 0 e := by omega
            rw [this]
            omega
        · cases h
      · rename_i id off e3 len cap
        split at h
        · rename_i os g0
          split at h
          · rename_i hcnd
            obtain ⟨rfl, hval, hwr, hnr⟩ := hcnd
            generalize hv1 : a.eval x1 = cv at hr
            cases hr with
            | sl _ _ _ _ _ o2 a2 ccap g1 g2 g3 g4 g5 =>
              rw [g0] at g1; cases g1
              obtain ⟨l, hl, hal⟩ := g5 hval
              have hdl : ds.length = n * i.size := by rw [← hds.1, hcl]
              have hmul : ∀ {x y : Nat}, x * i.size ≤ y * i.size → x ≤ y := fun {x y} h => Nat.le_of_mul_le_mul_right h z6
              have hadd : (len + n) * i.size = len * i.size + n * i.size := Nat.add_mul _ _ _
              have hinplace : len + n ≤ ccap → ∀ os', (os' = spl os (off + len * i.size) cs ∧ off + len * i.size + cs.length ≤ os.length ∨ os' = os.take (off + len * i.size) ++ cs ∧ os.length < off + len * i.size + cs.length ∧ off + len * i.size ≤ os.length) →
                  ∀ cap', off + cap' = os'.length → cap' ≤ ccap * i.size → Sim P B N nt o J s a w (.val (.slice (some ⟨id, off, some i.size⟩) (len + n) cap')) { s with H := s.H.set id os' } := fun hle os' hos' cap' hcap' hcc => by
                rcases hal with ⟨ha1, ha2⟩ | ⟨ha1, ha2⟩
                · rw [ha1, ha2, Nat.zero_add] at hle
                  exact absurd (Nat.le_zero.1 hle) hn0
                · have hm2 : (len + n) * i.size ≤ ccap * i.size := Nat.mul_le_mul_right _ hle
                  have hin : l.sh + (off + len * i.size) + cs.length ≤ l.sz := by omega
                  obtain ⟨r1, r2, r3⟩ := row_store (P := P) R.wr (i := off + len * i.size) g0 hl (hm id hwr) hds hone hin hos'
                  have hrun := run_app_room (P := P) (w := w) (ty := o.type) ht ht2 hi (base := some a2) (sLen := len) (sCap := ccap) hle (hf w rfl) (.inl ⟨a2, rfl, by rw [ha1, Addr.add_lit, show l.sh + off + len * i.size = l.sh + (off + len * i.size) by omega]; exact r1⟩)
                  have R1 := R.move r2 r3
                  refine ⟨_, _, _, J, hexec hv1 hv2 hrun, .inl rfl, r2.mono R.hN, R1.put_val (s := { s with H := s.H.set id os' }) hd ?_⟩
                  have hid := (List.getElem?_eq_some_iff.1 g0).1
                  exact .sl id off i.size _ cap' os' a2 ccap (by simp [hid]) (by omega) hle hcc fun _ => ⟨l, hl, .inr ⟨ha1, ha2⟩⟩
              split at h
              · rename_i hfit
                cases h
                have hle : len + n ≤ ccap := hmul (Nat.le_trans hfit g4)
                exact hinplace hle _ (.inl ⟨rfl, by omega⟩) cap (by rw [spl_length]; exact hval) g4
              · rename_i hfit
                split at h
                · rename_i hgr
                  obtain ⟨rfl, hlo, hb1, hb2⟩ := hgr
                  cases h
                  have hroom : room = 140737488355328 := rfl
                  by_cases hle : len + n ≤ ccap
                  · have := hinplace hle (os.take (len * i.size) ++ cs) (.inr ⟨by simp, by omega, by omega⟩) ((len + n) * i.size) (by simp; omega) (Nat.mul_le_mul_right _ hle)
                    exact this
                  · obtain ⟨l', dsr, e', lo', hi', b1, b2, b3, b4, b5, b6⟩ := R.wr.row _ _ g0
                    rw [hl] at b1; cases b1
                    have holds : ∃ olds : List Value, (Builtin.firstCells i.size len (.slice (some a2) len ccap)).run P w.drew = .ok olds.toArray w.drew ∧ LRel J s.H (os.take (len * i.size)) olds ∧ olds.length = len * i.size := by
                      rcases hal with ⟨ha1, ha2⟩ | ⟨ha1, ha2⟩
                      · subst ha1
                        exact ⟨[], run_first (.inl ⟨rfl, rfl⟩), by simp; exact .nil, by simp⟩
                      · refine ⟨(dsr.toList.drop l.sh).take (len * i.size), run_first (.inr ⟨a2, rfl, by simp; omega, fun j v hj => ?_⟩), ⟨by simp; omega, fun j x y hx hy => ?_⟩, by simp; omega⟩
                        · rw [List.getElem?_take] at hj
                          split at hj
                          · rw [List.getElem?_drop] at hj
                            rw [ha1, Addr.add_lit]
                            simp only [World.cell?, World.drew, b2]
                            simpa using hj
                          · cases hj
                        · rw [List.getElem?_take] at hx hy
                          split at hx
                          · rename_i hj
                            rw [if_pos hj, List.getElem?_drop] at hy
                            obtain ⟨_, dd, hdd, hrr⟩ := b5 _ x hx
                            have : dd = y := by
                              rw [Array.getElem?_toList, hdd] at hy
                              exact Option.some.inj hy
                            subst this
                            exact hrr
                          · cases hx
                    obtain ⟨olds, ho1, ho2, ho3⟩ := holds
                    have hrun := run_app_grow (P := P) (w := w) (ty := o.type) ht ht2 hi z2 (base := some a2) (sLen := len) (sCap := ccap) (n := n) (by omega) ho1 (hf w.drew rfl) hby (by omega) (by omega)
                    have hgc := grownCap_le w (len + n) ccap e
                    have htot : (olds ++ ds ++ (Builtin.zeroCells zv.cells (grownCap w (len + n) ccap e - (len + n))).toList).toArray.size = grownCap w (len + n) ccap e * i.size := by
                      simp only [List.size_toArray, List.length_append, Array.length_toList, zeroCells_size, hsz, ho3, hdl]
                      rw [← Nat.add_mul, ← Nat.add_mul]
                      congr 1
                      omega
                    have hlr := ho2.append hds
                    have htk : (os.take (len * i.size)).length = len * i.size := by simp; omega
                    have R0 := R.drew
                    obtain ⟨q1, q2⟩ := row_grow (w := w.drew) R0.wr (o' := os.take (len * i.size) ++ cs) (ds := (olds ++ ds ++ (Builtin.zeroCells zv.cells (grownCap w (len + n) ccap e - (len + n))).toList).toArray) e g0 (hm id hwr) (by rw [List.length_append, htk, hcl]; omega)
                      (by rw [htot, List.length_append, htk, hcl, ← Nat.add_mul]; exact Nat.mul_le_mul_right _ hgc) (fun j v hj => by
                        obtain ⟨y, hy, hrr⟩ := hlr.get hj
                        refine ⟨?_, y, ?_, hrr⟩
                        · rcases List.mem_append.1 (List.mem_of_getElem? hj) with hv | hv
                          · obtain ⟨k, hk⟩ := List.getElem?_of_mem (List.mem_of_mem_take hv)
                            exact (b5 k v hk).1
                          · exact hone v hv
                        · rw [List.getElem?_toArray, List.getElem?_append_left (List.getElem?_eq_some_iff.1 hy).1]
                          exact hy)
                    have hJ : ∀ L : Loc, (J.add id L) id = some L := fun L => by simp [Inj.add]
                    have R1 := R0.move q1 q2
                    refine ⟨_, _, _, _, hexec hv1 hv2 hrun, .inl rfl, ((Tr.drew J s.H w).mono R.hN).trans (q1.mono R.hN), R1.put_val (s := { s with H := s.H.set id (os.take (len * i.size) ++ cs) }) hd ?_⟩
                    have hid := (List.getElem?_eq_some_iff.1 g0).1
                    refine .sl id 0 i.size _ _ (os.take (len * i.size) ++ cs) _ (grownCap w (len + n) ccap e) (by simp [hid]) (by rw [List.length_append, htk, hcl]; omega) hgc (Nat.mul_le_mul_right _ hgc) fun _ => ⟨_, hJ _, .inr ⟨rfl, by simp only [htot]; omega⟩⟩
                · cases h
          · cases h
        · cases h
      · cases h
  · cases h

theorem set_self {α : Type} {l : List α} {i : Nat} {v : α} (h : l[i]? = some v) : l.set i v = l := by
  apply List.ext_getElem?
  intro j
  rw [List.getElem?_set]
  split
  · rename_i e
    subst e
    split
    · exact h.symm
    · rename_i hl
      rw [List.getElem?_eq_none (by omega)]
  · rfl

theorem sim_cpy {m : Md} (hm : ∀ id, m.wr id = true → B ≤ id) {c : Call} {x1 x2 : Operand} {p q : X} {t e : TypeId} {i : TypeInfo} (hop : o.op = .call c) (hb : c.callee = .builtin .copy) (ha : c.args.toList = [x1, x2])
    (hat : c.argTypes[0]? = some t) (ht : P.underlying t = some (.slice e)) (hi : P.info? e = some i)
    (h1 : cx x1 = some p) (h2 : cx x2 = some q) (R : Rel B N nt J s a w) (hd : ∀ d, o.dst = some d → d < nt) {f : FV} {s' : St} (h : cpyK m s i.size p q = some (f, s')) : Sim P B N nt o J s a w f s' := by
  have haa : c.args = #[x1, x2] := by apply Array.toList_inj.1; rw [ha]
  have hexec : ∀ {base sb : Option Addr} {dLen dc n sc : Nat} {ds : List Value} {w' : World}, a.eval x1 = .slice base dLen dc → a.eval x2 = .slice sb n sc → (Builtin.firstCells i.size (min n dLen) (.slice sb n sc)).run P w = .ok ds.toArray w →
      ((∃ p, base = some p ∧ (storeCells p ds).run P w = .ok () w') ∨ base = none ∧ w' = w) → (execOp a.eval o).run P w = .ok (.value (goInt (min n dLen : Nat))) w' := fun {base sb dLen dc n sc ds w'} e1 e2 hf hs => by
    simp only [execOp, hop, resolve, hb, haa]
    rcases hs with ⟨p, rfl, hs⟩ | ⟨rfl, rfl⟩
    · simp [invoke, builtin, Builtin.copy_, hat, e1, e2, run_underlying ht, Builtin.lenOf, run_sizeOf' hi, hf, hs]
    · simp [invoke, builtin, Builtin.copy_, hat, e1, e2, run_underlying ht, Builtin.lenOf, run_sizeOf' hi, hf]
  unfold cpyK at h
  split at h
  · rename_i nc e1 hsrc
    obtain ⟨n, cs⟩ := nc
    simp only [St.val] at h; cases h
    obtain ⟨sb, sc, hv2, hcl, hc⟩ := src_ok R h2 hsrc
    have hr := opx R h1 e1
    generalize hv1 : a.eval x1 = cv at hr
    cases hr
    refine .of_val R hd (v := goInt (min n 0 : Nat)) (hexec (ds := []) hv1 hv2 ?_ (.inr ⟨rfl, rfl⟩)) ?_
    · rw [Nat.min_zero]
      cases sb with
      | none => exact run_firstCells_none w _ _ _ _
      | some p => exact run_firstCells_some w _ 0 p n sc [] (by simp) (by simp)
    · rw [Nat.min_zero]; exact .int _ _
  · rename_i id off e3 len cap n cs e1 hsrc
    obtain ⟨sb, sc, hv2, hcl, hc⟩ := src_ok R h2 hsrc
    have hr := opx R h1 e1
    split at h
    · rename_i os g0
      split at h
      · rename_i hcnd
        obtain ⟨rfl, hval, hwr, hnr, hlc⟩ := hcnd
        cases h
        generalize hv1 : a.eval x1 = cv at hr
        cases hr with
        | sl _ _ _ _ _ o2 a2 ccap g1 g2 g3 g4 g5 =>
          rw [g0] at g1; cases g1
          obtain ⟨l, hl, hal⟩ := g5 hval
          have hmin : min n len ≤ n := Nat.min_le_left _ _
          have hmin2 : min n len ≤ len := Nat.min_le_right _ _
          have hm1 : min n len * i.size ≤ n * i.size := Nat.mul_le_mul_right _ hmin
          have hm2 : min n len * i.size ≤ len * i.size := Nat.mul_le_mul_right _ hmin2
          have hds : ∃ ds : List Value, (Builtin.firstCells i.size (min n len) (.slice sb n sc)).run P w = .ok ds.toArray w ∧ LRel J s.H (cs.take (min n len * i.size)) ds ∧ (∀ v ∈ cs.take (min n len * i.size), v.oneCell' = true) := by
            rcases hc with ⟨rfl, rfl⟩ | ⟨p', ds, rfl, q1, q2, q3⟩
            · refine ⟨[], ?_, by simp; exact .nil, by simp⟩
              rw [Nat.zero_min]
              exact run_first (.inl ⟨rfl, rfl⟩)
            · refine ⟨ds.take (min n len * i.size), run_firstCells_some w _ _ p' n sc _ ?_ fun j v hj => ?_, q1.take _, fun v hv => q2 v (List.mem_of_mem_take hv)⟩
              · have := q1.1
                rw [List.length_take]
                omega
              · rw [List.getElem?_take] at hj
                split at hj
                · exact q3 j v hj
                · cases hj
          obtain ⟨ds, hf, hr2, hone⟩ := hds
          have hlen : (cs.take (min n len * i.size)).length = min n len * i.size := by rw [List.length_take]; omega
          rcases hal with ⟨ha1, ha2⟩ | ⟨ha1, ha2⟩
          · subst ha1
            have hnil : cs.take (min n 0 * i.size) = [] := by simp
            have hdn : ds = [] := by
              apply List.eq_nil_of_length_eq_zero
              rw [← hr2.1, hnil]
              rfl
            subst hdn
            rw [hnil]
            refine ⟨_, _, w, J, hexec hv1 hv2 hf (.inl ⟨a2, rfl, rfl⟩), .inl rfl, ?_, ?_⟩
            · simp only [spl]
              rw [set_self g0]
              exact .refl _ _ _ _ _
            · simp only [spl]
              rw [set_self g0]
              exact R.put_val hd (.int _ _)
          · have hcc : len * i.size ≤ ccap * i.size := Nat.mul_le_mul_right _ g3
            have hin : l.sh + off + (cs.take (min n len * i.size)).length ≤ l.sz := by rw [hlen]; omega
            obtain ⟨r1, r2, r3⟩ := row_store (P := P) R.wr (i := off) g0 hl (hm id hwr) hr2 hone hin (.inl ⟨rfl, by rw [hlen]; omega⟩)
            have R1 := R.move r2 r3
            refine ⟨_, _, _, J, hexec hv1 hv2 hf (.inl ⟨a2, rfl, by rw [ha1]; exact r1⟩), .inl rfl, r2.mono R.hN, R1.put_val (s := { s with H := s.H.set id (spl os off (cs.take (min n len * i.size))) }) hd (.int _ _)⟩
      · cases h
    · cases h
  · cases h

theorem sim_clr {m : Md} (hm : ∀ id, m.wr id = true → B ≤ id) {c : Call} {x1 : Operand} {p : X} {t e : TypeId} {z : List Value} (hop : o.op = .call c) (hb : c.callee = .builtin .clear) (ha : c.args.toList = [x1])
    (hat : c.argTypes[0]? = some t) (ht : P.underlying t = some (.slice e)) (hz : zeroI P e = some z)
    (h1 : cx x1 = some p) (R : Rel B N nt J s a w) (hd : ∀ d, o.dst = some d → d < nt) {f : FV} {s' : St} (h : clrK m s z.length z p = some (f, s')) : Sim P B N nt o J s a w f s' := by
  have haa : c.args = #[x1] := by apply Array.toList_inj.1; rw [ha]
  obtain ⟨i, zv, z1, z2, z3, z4, z5, z6⟩ := zeroI_spec hz
  have hzc : ∀ n, (Builtin.zeroCells zv.cells n).toList = zeros n z := fun n => by
    rw [← zeros_get]
    have : zv.cells = z.toArray := by rw [← z3]
    rw [this]
    simp [Builtin.zeroCells, madeCells]
  have htup : VRel J s.H (.tuple #[]) (.tuple #[]) := .tup _ _ rfl fun i x y hx => by simp at hx
  have hexec0 : ∀ {base : Option Addr} {n cc : Nat}, a.eval x1 = .slice base n cc → (base = none ∨ n = 0) → (execOp a.eval o).run P w = .ok (.value (.tuple #[])) w := fun {base n cc} e1 h0 => by
    simp only [execOp, hop, resolve, hb, haa]
    rcases h0 with rfl | rfl
    · simp [invoke, builtin, Builtin.clear_, hat, e1, run_underlying ht]
    · cases base <;> simp [invoke, builtin, Builtin.clear_, hat, e1, run_underlying ht]
  unfold clrK at h
  split at h
  · rename_i e1
    simp only [St.val] at h; cases h
    have hr := opx R h1 e1
    generalize hv1 : a.eval x1 = cv at hr
    cases hr
    exact .of_val R hd (hexec0 hv1 (.inl rfl)) htup
  · rename_i id off e3 len cap e1
    have hr := opx R h1 e1
    split at h
    · rename_i os g0
      split at h
      · rename_i hcnd
        obtain ⟨rfl, hval, hwr, hnr, hlc⟩ := hcnd
        cases h
        generalize hv1 : a.eval x1 = cv at hr
        cases hr with
        | sl _ _ _ _ _ o2 a2 ccap g1 g2 g3 g4 g5 =>
          rw [g0] at g1; cases g1
          obtain ⟨l, hl, hal⟩ := g5 hval
          by_cases h0 : len = 0
          · subst h0
            have hnil : zeros 0 z = [] := by simp [zeros]
            rw [hnil]
            refine ⟨_, _, w, J, hexec0 hv1 (.inr rfl), .inl rfl, ?_, ?_⟩
            · simp only [spl]
              rw [set_self g0]
              exact .refl _ _ _ _ _
            · simp only [spl]
              rw [set_self g0]
              exact R.put_val hd htup
          · rcases hal with ⟨ha1, ha2⟩ | ⟨ha1, ha2⟩
            · exact absurd ha1 h0
            · have hcc : len * z.length ≤ ccap * z.length := Nat.mul_le_mul_right _ g3
              have hzl := zeros_length len z
              have hin : l.sh + off + (zeros len z).length ≤ l.sz := by rw [hzl]; omega
              have hzs := zeros_scal (n := len) z5
              obtain ⟨r1, r2, r3⟩ := row_store (P := P) R.wr (i := off) g0 hl (hm id hwr) (LRel.scal hzs) (one_zero hzs) hin (.inl ⟨rfl, by rw [hzl]; omega⟩)
              have R1 := R.move r2 r3
              have hrun : (execOp a.eval o).run P w = .ok (.value (.tuple #[])) (w.setCells l.b (l.sh + off) (zeros len z)) := by
                simp only [execOp, hop, resolve, hb, haa]
                obtain ⟨n', rfl⟩ : ∃ n', len = n' + 1 := ⟨len - 1, by omega⟩
                simp [invoke, builtin, Builtin.clear_, hat, hv1, run_underlying ht, zeroValue, typeInfo, z1, z2, hzc, ha1, r1]
              exact ⟨_, _, _, J, hrun, .inl rfl, r2.mono R.hN, R1.put_val (s := { s with H := s.H.set id (spl os off (zeros len z)) }) hd (.tup _ _ rfl fun i x y hx => by simp at hx)⟩
      · cases h
    · cases h
  · cases h

end
end Go.Proofs.YtglboiahgpfjdaaGreat.Ev

/- Each operation of the small machine is Go's own: all of them in one word. -/
namespace Go.Proofs.YtglboiahgpfjdaaGreat.Ev
set_option linter.all false
open Go

section
variable {P : Program} {B N nt : Nat} {o : Oper} {J : Inj} {s : St} {a : Act} {w : World}

theorem cxs_one {xs : List Operand} {p : X} (h : cxs xs = some [p]) : ∃ x, xs = [x] ∧ cx x = some p := by
  cases xs with
  | nil => simp [cxs] at h
  | cons x xs =>
    simp only [cxs] at h
    split at h
    · rename_i v vs e1 e2
      cases h
      cases xs with
      | nil => exact ⟨x, rfl, e1⟩
      | cons y ys =>
        simp only [cxs] at e2
        split at e2 <;> cases e2
    · cases h

theorem cxs_two {xs : List Operand} {p q : X} (h : cxs xs = some [p, q]) : ∃ x y, xs = [x, y] ∧ cx x = some p ∧ cx y = some q := by
  cases xs with
  | nil => simp [cxs] at h
  | cons x xs =>
    simp only [cxs] at h
    split at h
    · rename_i v vs e1 e2
      cases h
      obtain ⟨y, rfl, hy⟩ := cxs_one e2
      exact ⟨x, y, rfl, e1, hy⟩
    · cases h

/-- One operation, no call. -/
theorem simK {m : Md} {hv : Nat → Bool} (hm : ∀ id, m.wr id = true → B ≤ id) {k : CK} (hk : compK0 P hv o.dst o = some k) (R : Rel B N nt J s a w) (hB : B ≤ s.H.length) (hd : ∀ d, o.dst = some d → d < nt) {f : FV} {s' : St} (h : stepK m s k = some (f, s')) :
    Sim P B N nt o J s a w f s' := by
  unfold compK0 at hk
  simp only [Option.bind_eq_bind, Option.pure_def] at hk
  split at hk
  · rename_i x hop
    obtain ⟨y, hy, hk⟩ := Option.bind_eq_some_iff.1 hk; cases hk
    exact sim_mov (.inl hop) hy R hd h
  · rename_i x hop
    obtain ⟨y, hy, hk⟩ := Option.bind_eq_some_iff.1 hk; cases hk
    exact sim_mov (.inr hop) hy R hd h
  · rename_i c p q hop
    obtain ⟨y1, h1, hk⟩ := Option.bind_eq_some_iff.1 hk
    obtain ⟨y2, h2, hk⟩ := Option.bind_eq_some_iff.1 hk
    obtain ⟨y3, h3, hk⟩ := Option.bind_eq_some_iff.1 hk; cases hk
    exact sim_pick hop h1 h2 h3 R hd h
  · rename_i t hop
    obtain ⟨z, hz, hk⟩ := Option.bind_eq_some_iff.1 hk
    obtain ⟨d, hdst, hk⟩ := Option.bind_eq_some_iff.1 hk; cases hk
    split at h
    · exact sim_newV hop hdst hz R (hd d hdst) h
    · exact sim_newO hop hz R hB hd h
  · rename_i t x hop
    obtain ⟨d, hdst, hk⟩ := Option.bind_eq_some_iff.1 hk
    obtain ⟨y, hy, hk⟩ := Option.bind_eq_some_iff.1 hk; cases hk
    split at h
    · exact sim_boxV hop hdst hy R (hd d hdst) h
    · exact sim_boxO hop hy R hB hd h
  · rename_i t ps hop
    obtain ⟨i, hi, hk⟩ := Option.bind_eq_some_iff.1 hk
    obtain ⟨z, hz, hk⟩ := Option.bind_eq_some_iff.1 hk
    split at hk
    · rename_i cs fs hu
      split at hk
      · rename_i hc
        simp only [Bool.and_eq_true] at hc
        obtain ⟨xs, hxs, hk⟩ := Option.bind_eq_some_iff.1 hk; cases hk
        exact sim_build hop hi hz hc.2 (.inl ⟨fs, hu, hc.1⟩) hxs R hd h
      · cases hk
    · rename_i cs n e hu
      split at hk
      · rename_i hc
        obtain ⟨xs, hxs, hk⟩ := Option.bind_eq_some_iff.1 hk; cases hk
        exact sim_build hop hi hz hc (.inr ⟨n, e, hu⟩) hxs R hd h
      · cases hk
    · cases hk
  · rename_i t len ps hop
    obtain ⟨dt, ht, hk⟩ := Option.bind_eq_some_iff.1 hk
    split at hk
    · rename_i e
      obtain ⟨z, hz, hk⟩ := Option.bind_eq_some_iff.1 hk
      obtain ⟨d, hdst, hk⟩ := Option.bind_eq_some_iff.1 hk
      obtain ⟨xs, hxs, hk⟩ := Option.bind_eq_some_iff.1 hk
      split at hk
      · rename_i hbig
        cases hk
        split at h
        · exact sim_mkV hop hdst ht hz hxs hbig R (hd d hdst) h
        · exact sim_mkO hop ht hz hxs hbig R hB hd h
      · cases hk
    · cases hk
  · rename_i t x hop
    obtain ⟨⟨n, agg⟩, hi, hk⟩ := Option.bind_eq_some_iff.1 hk
    obtain ⟨y, hy, hk⟩ := Option.bind_eq_some_iff.1 hk; cases hk
    exact sim_load hop hi hy R hd h
  · rename_i t x v hop
    split at hk
    · rename_i hdst
      obtain ⟨⟨n, agg⟩, hi, hk⟩ := Option.bind_eq_some_iff.1 hk
      obtain ⟨y, hy, hk⟩ := Option.bind_eq_some_iff.1 hk
      obtain ⟨z, hz, hk⟩ := Option.bind_eq_some_iff.1 hk; cases hk
      exact sim_store hm hop hdst hi hy hz R h
    · cases hk
  · rename_i x hop
    obtain ⟨y, hy, hk⟩ := Option.bind_eq_some_iff.1 hk; cases hk
    exact sim_nilc hop hy R hd h
  · rename_i op t x y ty hop
    obtain ⟨x', hx, hk⟩ := Option.bind_eq_some_iff.1 hk
    obtain ⟨y', hy, hk⟩ := Option.bind_eq_some_iff.1 hk
    split at hk
    · rename_i ht
      split at hk
      · cases hk; exact sim_beq hop (.inl ⟨rfl, rfl⟩) ht hx hy R hd h
      · cases hk; exact sim_beq hop (.inr ⟨rfl, rfl⟩) ht hx hy R hd h
      · cases hk
    · rename_i fs ht
      split at hk
      · rename_i ks hks
        split at hk
        · cases hk
        · rename_i hst
          simp only [Bool.or_eq_true, not_or, Bool.not_eq_true] at hst
          split at hk
          · cases hk; exact sim_aeq hop (.inl ⟨rfl, rfl⟩) ht hks hst.1 hst.2 hx hy R hd h
          · cases hk; exact sim_aeq hop (.inr ⟨rfl, rfl⟩) ht hks hst.1 hst.2 hx hy R hd h
          · cases hk
      · cases hk
    · cases hk; exact sim_bin hop hx hy R hd h
    · cases hk; exact sim_bin hop hx hy R hd h
    · cases hk
  · rename_i op t x hop
    obtain ⟨y, hy, hk⟩ := Option.bind_eq_some_iff.1 hk; cases hk
    exact sim_un hop hy R hd h
  · rename_i sr ds x hop
    obtain ⟨y, hy, hk⟩ := Option.bind_eq_some_iff.1 hk
    split at hk
    · rename_i k0 k1 hs hds
      cases hk; exact sim_toInt hop hs hds hy R hd h
    · rename_i hs hds
      cases hk; exact sim_str hop hs hds hy R hd h
    · rename_i e hs hds
      split at hk
      · rename_i i he hi
        split at hk
        · cases hk; exact sim_s2b (esz := 1) hop hs hds he hy R hB hd h rfl
        · cases hk
      · cases hk
    · rename_i e hs hds
      split at hk
      · rename_i i he hi
        split at hk
        · cases hk; exact sim_b2s hop hs hds he hy R hd h
        · cases hk
      · cases hk
    · cases hk
  · rename_i g first caps hop
    split at hk
    · rename_i hf
      obtain ⟨ys, hys, hk⟩ := Option.bind_eq_some_iff.1 hk; cases hk
      exact sim_fn hop hf hys R hd h
    · cases hk
  · rename_i t l c hop
    obtain ⟨dt, ht, hk⟩ := Option.bind_eq_some_iff.1 hk
    split at hk
    · rename_i e
      obtain ⟨z, hz, hk⟩ := Option.bind_eq_some_iff.1 hk
      obtain ⟨i, hi, hk⟩ := Option.bind_eq_some_iff.1 hk
      obtain ⟨x, hx, hk⟩ := Option.bind_eq_some_iff.1 hk
      obtain ⟨y, hy, hk⟩ := Option.bind_eq_some_iff.1 hk; cases hk
      exact sim_makeS hop ht hz hi hx hy R hB hd h
    · cases hk
  · rename_i t x lo hi mx hop
    obtain ⟨y, hy, hk⟩ := Option.bind_eq_some_iff.1 hk
    obtain ⟨lo', hlo, hk⟩ := Option.bind_eq_some_iff.1 hk
    obtain ⟨hi', hhi, hk⟩ := Option.bind_eq_some_iff.1 hk
    obtain ⟨mx', hmx, hk⟩ := Option.bind_eq_some_iff.1 hk
    obtain ⟨e0, ht, hk⟩ := Option.bind_eq_some_iff.1 hk
    split at hk
    · rename_i e
      obtain ⟨i, hie, hk⟩ := Option.bind_eq_some_iff.1 hk
      split at hk
      · cases hk
      · rename_i hz
        cases hk; exact sim_slc3 hop ht hie hz hy hlo hhi hmx R hd h
    · cases hk
  · rename_i t x lo hi mx _ hop
    split at hk
    · cases hk
    · rename_i hmx
      have hmx : mx = none := by cases mx <;> simp_all
      subst hmx
      obtain ⟨y, hy, hk⟩ := Option.bind_eq_some_iff.1 hk
      obtain ⟨lo', hlo, hk⟩ := Option.bind_eq_some_iff.1 hk
      obtain ⟨hi', hhi, hk⟩ := Option.bind_eq_some_iff.1 hk
      split at hk
      · rename_i ht
        cases hk; exact sim_slcS hop ht hy hlo hhi R hd h
      · rename_i e ht
        obtain ⟨i, hie, hk⟩ := Option.bind_eq_some_iff.1 hk
        split at hk
        · cases hk
        · rename_i hz
          cases hk; exact sim_slc hop ht hie hz hy hlo hhi R hd h
      · cases hk
  · rename_i t x n hop
    obtain ⟨dt, ht, hk⟩ := Option.bind_eq_some_iff.1 hk
    split at hk
    · rename_i fs
      obtain ⟨fd, hfd, hk⟩ := Option.bind_eq_some_iff.1 hk
      obtain ⟨i, hi, hk⟩ := Option.bind_eq_some_iff.1 hk
      split at hk
      · cases hk
      · rename_i hz
        obtain ⟨y, hy, hk⟩ := Option.bind_eq_some_iff.1 hk; cases hk
        exact sim_fadr hop ht hfd hi hz hy R hd h
    · cases hk
  · rename_i t x n hop
    obtain ⟨dt, ht, hk⟩ := Option.bind_eq_some_iff.1 hk
    split at hk
    · rename_i fs
      obtain ⟨fd, hfd, hk⟩ := Option.bind_eq_some_iff.1 hk
      obtain ⟨⟨m, agg⟩, hi, hk⟩ := Option.bind_eq_some_iff.1 hk
      obtain ⟨y, hy, hk⟩ := Option.bind_eq_some_iff.1 hk; cases hk
      exact sim_fld hop ht hfd hi hy R hd h
    · cases hk
  · rename_i t x ix hop
    obtain ⟨x', hx, hk⟩ := Option.bind_eq_some_iff.1 hk
    obtain ⟨y', hy, hk⟩ := Option.bind_eq_some_iff.1 hk
    split at hk
    · rename_i e ht
      obtain ⟨i, hi, hk⟩ := Option.bind_eq_some_iff.1 hk; cases hk
      exact sim_iadr hop ht hi hx hy R hd h
    · rename_i n e ht
      obtain ⟨i, hi, hk⟩ := Option.bind_eq_some_iff.1 hk; cases hk
      exact sim_iadrA hop ht hi hx hy R hd h
    · cases hk
  · rename_i t x ix hop
    split at hk
    · rename_i ht
      obtain ⟨x', hx, hk⟩ := Option.bind_eq_some_iff.1 hk
      obtain ⟨y', hy, hk⟩ := Option.bind_eq_some_iff.1 hk; cases hk
      exact sim_idx hop ht hx hy R hd h
    · rename_i n e ht
      obtain ⟨⟨k, agg⟩, ht2, hk⟩ := Option.bind_eq_some_iff.1 hk
      simp only at hk
      split at hk
      · rename_i hka
        obtain ⟨rfl, rfl⟩ := hka
        obtain ⟨x', hx, hk⟩ := Option.bind_eq_some_iff.1 hk
        obtain ⟨y', hy, hk⟩ := Option.bind_eq_some_iff.1 hk; cases hk
        exact sim_idxA hop ht ht2 hx hy R hd h
      · cases hk
    · cases hk
  · rename_i x n hop
    obtain ⟨y, hy, hk⟩ := Option.bind_eq_some_iff.1 hk; cases hk
    exact sim_ext hop hy R hd h
  · rename_i c hop
    split at hk
    · obtain ⟨fn, _, hk⟩ := Option.bind_eq_some_iff.1 hk
      split at hk
      · obtain ⟨ys, _, hk⟩ := Option.bind_eq_some_iff.1 hk; cases hk
        simp [stepK] at h
      · cases hk
    · obtain ⟨y, _, hk⟩ := Option.bind_eq_some_iff.1 hk
      obtain ⟨ys, _, hk⟩ := Option.bind_eq_some_iff.1 hk; cases hk
      simp [stepK] at h
    · rename_i b hb
      obtain ⟨t, hat, hk⟩ := Option.bind_eq_some_iff.1 hk
      obtain ⟨d, ht, hk⟩ := Option.bind_eq_some_iff.1 hk
      obtain ⟨xs, hxs, hk⟩ := Option.bind_eq_some_iff.1 hk
      split at hk
      · cases hk
        obtain ⟨x, ha, hx⟩ := cxs_one hxs
        exact sim_lenT hop hb ha hat ht hx R hd h
      · cases hk
        obtain ⟨x, ha, hx⟩ := cxs_one hxs
        exact sim_lenS hop hb ha hat ht hx R hd h
      · cases hk
        obtain ⟨x, y, ha, hx, hy⟩ := cxs_two hxs
        exact sim_mx hop hb ha hx hy R hd h
      · cases hk
        obtain ⟨x, y, ha, hx, hy⟩ := cxs_two hxs
        exact sim_mn hop hb ha hx hy R hd h
      · obtain ⟨t2, hat2, hk⟩ := Option.bind_eq_some_iff.1 hk
        obtain ⟨d2, ht2, hk⟩ := Option.bind_eq_some_iff.1 hk
        split at hk
        · obtain ⟨i, hi, hk⟩ := Option.bind_eq_some_iff.1 hk
          obtain ⟨z, hz, hk⟩ := Option.bind_eq_some_iff.1 hk
          split at hk
          · cases hk
          · rename_i hn
            cases hk
            obtain ⟨x, y, ha, hx, hy⟩ := cxs_two hxs
            exact sim_app hm hop hb ha hat hat2 ht ht2 hi hz (fun e => hn (.inl e)) hx hy R hB hd h
        · cases hk
      · obtain ⟨i, hi, hk⟩ := Option.bind_eq_some_iff.1 hk; cases hk
        obtain ⟨x, y, ha, hx, hy⟩ := cxs_two hxs
        exact sim_cpy hm hop hb ha hat ht hi hx hy R hd h
      · obtain ⟨z, hz, hk⟩ := Option.bind_eq_some_iff.1 hk; cases hk
        obtain ⟨x, ha, hx⟩ := cxs_one hxs
        exact sim_clr hm hop hb ha hat ht hz hx R hd h
      · cases hk
    · cases hk
  · cases hk

end
end Go.Proofs.YtglboiahgpfjdaaGreat.Ev

/- What an operation, and a call, leaves as it was. -/
namespace Go.Proofs.YtglboiahgpfjdaaGreat.Ev
set_option linter.all false
open Go

/-- What may become of the rows that were there. -/
structure Kp (m : Md) (H H' : Hp) : Prop where
  len : H.length ≤ H'.length
  wr : ∀ id, m.wr id = false → id < H.length → H'[id]? = H[id]?
  nr : m.nr = true → ∀ (id : Nat) (o' : List Value), id < H.length → H'[id]? = some o' → ∃ o, H[id]? = some o ∧ ∀ v ∈ o', scal v = true ∨ v ∈ o

theorem Kp.refl (m : Md) (H : Hp) : Kp m H H := ⟨Nat.le_refl _, fun _ _ _ => rfl, fun _ _ o' _ h => ⟨o', h, fun _ hv => .inr hv⟩⟩

theorem Kp.trans {m : Md} {H H' H'' : Hp} (h : Kp m H H') (k : Kp m H' H'') : Kp m H H'' := by
  refine ⟨Nat.le_trans h.len k.len, fun id h1 h2 => (k.wr id h1 (Nat.lt_of_lt_of_le h2 h.len)).trans (h.wr id h1 h2), fun hn id o'' hl ho => ?_⟩
  obtain ⟨o', ho', h1⟩ := k.nr hn id o'' (Nat.lt_of_lt_of_le hl h.len) ho
  obtain ⟨o, ho1, h2⟩ := h.nr hn id o' hl ho'
  refine ⟨o, ho1, fun v hv => ?_⟩
  rcases h1 v hv with h3 | h3
  · exact .inl h3
  · exact h2 v h3

theorem Kp.push (m : Md) (H : Hp) (x : List Value) : Kp m H (H ++ [x]) := by
  refine ⟨by simp, fun id _ h => List.getElem?_append_left h, fun _ id o' hl ho => ?_⟩
  rw [List.getElem?_append_left hl] at ho
  exact ⟨o', ho, fun _ hv => .inr hv⟩

theorem mem_spl : ∀ {vs o : List Value} {i : Nat} {v : Value}, v ∈ spl o i vs → v ∈ vs ∨ v ∈ o := fun {vs o i v} h => by
  obtain ⟨j, hj⟩ := List.getElem?_of_mem h
  rw [spl_get] at hj
  split at hj
  · split at hj
    · exact .inl (List.mem_of_getElem? hj)
    · cases hj
  · exact .inr (List.mem_of_getElem? hj)

theorem Kp.set {m : Md} {H : Hp} {id : Nat} {o o' : List Value} (ho : H[id]? = some o) (hw : m.wr id = true) (hn : m.nr = true → ∀ v ∈ o', scal v = true ∨ v ∈ o) : Kp m H (H.set id o') := by
  refine ⟨by simp, fun id2 h1 h2 => ?_, fun h id2 o2 hl ho2 => ?_⟩
  · rw [List.getElem?_set_ne]
    intro e
    rw [e, h1] at hw
    cases hw
  · by_cases e : id = id2
    · subst e
      have : o' = o2 := by simpa [hl] using ho2
      subst this
      exact ⟨o, ho, hn h⟩
    · rw [List.getElem?_set_ne e] at ho2
      exact ⟨o2, ho2, fun _ hv => .inr hv⟩

theorem Kp.set_spl {m : Md} {H : Hp} {id i : Nat} {o vs : List Value} (ho : H[id]? = some o) (hw : m.wr id = true) (hn : m.nr = true → vs.all scal = true) : Kp m H (H.set id (spl o i vs)) :=
  .set ho hw fun h v hv => by
    rcases mem_spl hv with h1 | h1
    · exact .inl (List.all_eq_true.1 (hn h) v h1)
    · exact .inr h1

theorem stepK_kp {m : Md} {s s' : St} {k : CK} {f : FV} (h : stepK m s k = some (f, s')) : Kp m s.H s'.H := by
  have same : s'.H = s.H → Kp m s.H s'.H := fun e => e ▸ Kp.refl m s.H
  have ofv : ∀ {x : Option Value}, ofV s x = some (f, s') → Kp m s.H s'.H := fun {x} e => by
    cases x <;> simp only [ofV] at e <;> cases e
    exact .refl _ _
  cases k with
  | mov x => simp only [stepK, movK] at h; split at h <;> cases h; exact .refl _ _
  | pick c a b => simp only [stepK, pickK] at h; split at h <;> (try simp only [St.val] at h) <;> cases h; exact .refl _ _
  | bin op x y => simp only [stepK, binK] at h; split at h; exact ofv h; cases h
  | beq neg x y => simp only [stepK, beqK] at h; split at h <;> (try simp only [St.val] at h) <;> cases h; exact .refl _ _
  | aeq neg ks x y =>
    simp only [stepK, aeqK] at h
    split at h
    · split at h <;> (try simp only [St.val] at h) <;> cases h; exact .refl _ _
    · cases h
  | un op x => simp only [stepK, unK] at h; split at h; exact ofv h; cases h
  | toInt k x => simp only [stepK, toIntK] at h; split at h <;> (try simp only [St.val] at h) <;> cases h; exact .refl _ _
  | str x => simp only [stepK, strK] at h; split at h <;> (try simp only [St.val] at h) <;> cases h; exact .refl _ _
  | s2b e x => simp only [stepK, s2bK] at h; split at h <;> cases h; exact .push _ _ _
  | b2s x =>
    simp only [stepK, b2sK] at h
    split at h
    · split at h <;> (try simp only [St.val] at h) <;> cases h; exact .refl _ _
    · cases h
  | fld off n agg x =>
    simp only [stepK, fldK] at h
    split at h
    · split at h
      · simp only [St.val] at h; cases h; exact .refl _ _
      · exact ofv h
    · cases h
  | idx x i =>
    simp only [stepK, idxK] at h
    split at h
    · split at h
      · split at h <;> (try simp only [St.val] at h) <;> cases h; exact .refl _ _
      · cases h
    · cases h
  | idxA n x i =>
    simp only [stepK, idxAK] at h
    split at h
    · split at h
      · exact ofv h
      · cases h
    · cases h
  | build zero parts =>
    simp only [stepK, buildK] at h
    split at h
    · split at h <;> (try simp only [St.val] at h) <;> cases h; exact .refl _ _
    · cases h
  | ext x i => simp only [stepK, extK] at h; split at h; exact ofv h; cases h
  | fadr off x =>
    simp only [stepK, fadrK] at h
    split at h
    · split at h <;> cases h; exact .refl _ _
    · cases h
  | iadr esz x i =>
    simp only [stepK, iadrK] at h
    split at h
    · split at h <;> cases h; exact .refl _ _
    · cases h
  | iadrA len esz x i =>
    simp only [stepK, iadrAK] at h
    split at h
    · split at h <;> cases h; exact .refl _ _
    · cases h
  | load n agg x =>
    simp only [stepK, loadK] at h
    split at h
    · split at h
      · split at h
        · split at h <;> (try simp only [St.val] at h) <;> cases h; exact .refl _ _
        · exact ofv h
      · cases h
    · cases h
  | store n x v =>
    simp only [stepK, storeK] at h
    split at h
    · split at h
      · rename_i hr
        split at h
        · split at h
          · split at h
            · rename_i hw
              cases h
              simp only [deref] at hr
              split at hr
              · rename_i g0
                split at hr
                · cases hr; exact .set_spl g0 hw.1 hw.2
                · cases hr
              · cases hr
            · cases h
          · cases h; exact .refl _ _
        · cases h
      · cases h
    · cases h
  | newV zero => simp only [stepK, newVK] at h; cases h; exact .refl _ _
  | newO zero => simp only [stepK, newOK] at h; cases h; exact .push _ _ _
  | boxV x => simp only [stepK, boxVK, newVK] at h; split at h <;> cases h; exact .refl _ _
  | boxO x => simp only [stepK, boxOK, newOK] at h; split at h <;> cases h; exact .push _ _ _
  | mkV len esz zero parts => simp only [stepK, mkVK] at h; split at h <;> cases h; exact .refl _ _
  | mkO len esz zero parts => simp only [stepK, mkOK] at h; split at h <;> cases h; exact .push _ _ _
  | makeS esz bytes zero l c =>
    simp only [stepK, makeSK] at h
    split at h
    · split at h <;> cases h; exact .push _ _ _
    · cases h
  | slc esz x lo hi =>
    simp only [stepK, slcK] at h
    split at h
    · split at h
      · split at h <;> (try simp only [St.val] at h) <;> cases h; exact .refl _ _
      · cases h
    · split at h
      · split at h <;> (try simp only [St.val] at h) <;> cases h; exact .refl _ _
      · cases h
    · cases h
  | slc3 esz x lo hi mx =>
    simp only [stepK, slc3K] at h
    split at h
    · split at h
      · split at h <;> (try simp only [St.val] at h) <;> cases h; exact .refl _ _
      · cases h
    · split at h
      · split at h <;> (try simp only [St.val] at h) <;> cases h; exact .refl _ _
      · cases h
    · cases h
  | slcS x lo hi =>
    simp only [stepK, slcSK] at h
    split at h
    · split at h
      · split at h <;> (try simp only [St.val] at h) <;> cases h; exact .refl _ _
      · cases h
    · cases h
  | lenS x => simp only [stepK, lenSK] at h; split at h <;> (try simp only [St.val] at h) <;> cases h <;> exact .refl _ _
  | lenT x => simp only [stepK, lenTK] at h; split at h <;> (try simp only [St.val] at h) <;> cases h; exact .refl _ _
  | mx x y => simp only [stepK, mxK] at h; split at h <;> (try simp only [St.val] at h) <;> cases h; exact .refl _ _
  | mn x y => simp only [stepK, mnK] at h; split at h <;> (try simp only [St.val] at h) <;> cases h; exact .refl _ _
  | app esz bytes x y =>
    simp only [stepK, appK] at h
    split at h
    · split at h
      · split at h <;> (try simp only [St.val] at h) <;> cases h <;> exact .refl _ _
      · split at h
        · split at h <;> cases h; exact .push _ _ _
        · split at h
          · rename_i g0
            split at h
            · rename_i hc
              split at h
              · cases h; exact .set_spl g0 hc.2.2.1 hc.2.2.2
              · split at h
                · cases h
                  refine .set g0 hc.2.2.1 fun hn v hv => ?_
                  rcases List.mem_append.1 hv with h1 | h1
                  · exact .inr (List.mem_of_mem_take h1)
                  · exact .inl (List.all_eq_true.1 (hc.2.2.2 hn) v h1)
                · cases h
            · cases h
          · cases h
        · cases h
    · cases h
  | cpy esz x y =>
    simp only [stepK, cpyK] at h
    split at h
    · simp only [St.val] at h; cases h; exact .refl _ _
    · split at h
      · rename_i g0
        split at h
        · rename_i hc
          cases h
          refine .set_spl g0 hc.2.2.1 fun hn => ?_
          rw [List.all_eq_true]
          intro v hv
          exact List.all_eq_true.1 (hc.2.2.2.1 hn) v (List.mem_of_mem_take hv)
        · cases h
      · cases h
    · cases h
  | clr esz zero x =>
    simp only [stepK, clrK] at h
    split at h
    · simp only [St.val] at h; cases h; exact .refl _ _
    · split at h
      · rename_i g0
        split at h
        · rename_i hc
          cases h
          exact .set_spl g0 hc.2.2.1 fun _ => zeros_scal hc.2.2.2.1
        · cases h
      · cases h
    · cases h
  | call g args => simp [stepK] at h
  | callV x args => simp [stepK] at h
  | fn g caps => simp only [stepK, fnK] at h; split at h <;> (try simp only [St.val] at h) <;> cases h; exact .refl _ _
  | pureC g args =>
    simp only [stepK, pureK] at h
    split at h
    · split at h
      · simp only [St.val] at h; cases h; exact .refl _ _
      · cases h
    · cases h
  | nilc x => simp only [stepK, nilcK] at h; split at h <;> (try simp only [St.val] at h) <;> cases h <;> exact .refl _ _

/-- What is asked of functions that are told by themselves. -/
def PrimKp (E : Env) : Prop := ∀ f p, E.prim f = some p → ∀ m vs H r H', p m vs H = some (r, H') → Kp m H H'

theorem drawn_kp {m : Md} {pw : Nat → Bool} {H H' : Hp} {f : Nat} {vs : List Value} (h : Kp (m.drawn pw H f vs) H H') : Kp m H H' :=
  ⟨h.len, fun id h1 h2 => h.wr id (by simp [Md.drawn, h1]; omega) h2, h.nr⟩

abbrev Evf := Md → Nat → List Value → Hp → Option (Value × Hp)
def EvKp (ev : Evf) : Prop := ∀ m f vs H r H', ev m f vs H = some (r, H') → Kp m H H'

theorem stepC_kp {E : Env} {m : Md} {draw : Bool} {ev : Evf} (hev : EvKp ev) {s s' : St} {k : CK} {f : FV} (h : stepC E m draw ev s k = some (f, s')) : Kp m s.H s'.H := by
  unfold stepC at h
  split at h
  · split at h
    · rename_i r H he
      cases h
      cases draw with
      | false => exact hev _ _ _ _ _ _ he
      | true => exact drawn_kp (hev _ _ _ _ _ _ he)
    · cases h
  · exact stepK_kp h

theorem stepO_kp {E : Env} {m : Md} {draw : Bool} {ev : Evf} (hev : EvKp ev) {s s' : St} {o : CO} (h : stepO E m draw ev s o = some s') : Kp m s.H s'.H := by
  unfold stepO at h
  split at h
  · split at h
    · rename_i v s1 hs
      cases h
      show Kp m s.H s1.H
      exact stepC_kp hev hs
    · cases h
  · cases h; exact .refl _ _
  · cases h

theorem runR_kp {E : Env} {m : Md} {draw : Bool} {ev : Evf} (hev : EvKp ev) : ∀ {ops : List CO} {s s' : St}, runR E m draw ev ops s = some s' → Kp m s.H s'.H
  | [], s, s', h => by simp only [runR] at h; cases h; exact .refl _ _
  | o :: os, s, s', h => by
    simp only [runR] at h
    split at h
    · rename_i s1 hs
      exact (stepO_kp hev hs).trans (runR_kp hev h)
    · cases h

theorem ev_kp {E : Env} (hp : PrimKp E) : ∀ k, EvKp (evF E k) ∧ ∀ m c s e s', evC E k m c s = some (e, s') → Kp m s.H s'.H
  | 0 => ⟨fun m f vs H r H' h => by simp [evF] at h, fun m c s e s' h => by simp [evC] at h⟩
  | k + 1 => by
    obtain ⟨i1, i2⟩ := ev_kp hp k
    refine ⟨fun m f vs H r H' h => ?_, fun m c s e s' h => ?_⟩
    · simp only [evF] at h
      split at h
      · rename_i p hpf
        exact hp f p hpf m vs H r H' h
      · split at h
        · cases h
        · split at h
          · split at h
            · cases h
            · rename_i e s hne he
              have hk := i2 _ _ _ _ _ he
              have hk' : Kp m H s.H := ⟨hk.len, hk.wr, fun hn => hk.nr (by simp [hn])⟩
              split at h
              · rename_i v hv
                split at h
                · split at h
                  · cases h
                    refine ⟨?_, fun id h1 h2 => ?_, fun hn id o' hl ho => ?_⟩
                    · have := hk.len
                      simp only at this
                      rw [List.length_take]
                      omega
                    · rw [List.getElem?_take, if_pos h2]; exact hk'.wr id h1 h2
                    · rw [List.getElem?_take, if_pos hl] at ho; exact hk'.nr hn id o' hl ho
                  · cases h
                · cases h; exact hk'
              · cases h
            · cases h
          · cases h
    · cases c with
      | skip => simp only [evC] at h; cases h; exact .refl _ _
      | exit id => simp only [evC] at h; cases h; exact .refl _ _
      | ret => simp only [evC] at h; cases h; exact .refl _ _
      | reg draw ops =>
        simp only [evC] at h
        split at h
        · cases h
        · split at h
          · rename_i s1 hs
            cases h
            exact runR_kp i1 hs
          · cases h
      | seq a b =>
        simp only [evC] at h
        split at h
        · rename_i s1 hs
          exact (i2 _ _ _ _ _ hs).trans (i2 _ _ _ _ _ h)
        · exact i2 _ _ _ _ _ h
      | cond c a b =>
        simp only [evC] at h
        split at h
        · exact i2 _ _ _ _ _ h
        · exact i2 _ _ _ _ _ h
        · cases h
      | block id c =>
        simp only [evC] at h
        split at h
        · rename_i j s1 hs
          split at h <;> cases h <;> exact i2 _ _ _ _ _ hs
        · exact i2 _ _ _ _ _ h
      | loop c =>
        simp only [evC] at h
        split at h
        · rename_i s1 hs
          exact (i2 _ _ _ _ _ hs).trans (i2 _ _ _ _ _ h)
        · exact i2 _ _ _ _ _ h

end Go.Proofs.YtglboiahgpfjdaaGreat.Ev

/- Two operations of a region that do not meet may change places. -/
namespace Go.Proofs.YtglboiahgpfjdaaGreat.Ev
set_option linter.all false
open Go

theorem ex_congr {ρ ρ' : Nat → FV} {x : X} (h : ∀ t ∈ xs1 x, ρ' t = ρ t) : ex ρ' x = ex ρ x := by
  cases x with
  | t n => exact h n (by simp [xs1])
  | c v => rfl
  | f n => rfl

theorem exv_congr {ρ ρ' : Nat → FV} {x : X} (h : ∀ t ∈ xs1 x, ρ' t = ρ t) : exv ρ' x = exv ρ x := by
  unfold exv; rw [ex_congr h]

theorem exc_congr {ρ ρ' : Nat → FV} {x : X} (h : ∀ t ∈ xs1 x, ρ' t = ρ t) : exc ρ' x = exc ρ x := by
  unfold exc; rw [exv_congr h]

theorem adr_congr {ρ ρ' : Nat → FV} {x : X} (h : ∀ t ∈ xs1 x, ρ' t = ρ t) : adr ρ' x = adr ρ x := by
  cases x with
  | t n => simp only [adr, h n (by simp [xs1])]
  | c v => rfl
  | f n => rfl

theorem exvs_congr {ρ ρ' : Nat → FV} : ∀ {xs : List X}, (∀ t ∈ xs.flatMap xs1, ρ' t = ρ t) → exvs ρ' xs = exvs ρ xs
  | [], _ => rfl
  | x :: xs, h => by
    simp only [exvs]
    rw [exv_congr (fun t ht => h t (by simp [ht])), exvs_congr (fun t ht => h t (by rw [List.flatMap_cons]; exact List.mem_append_right _ ht))]

theorem exps_congr {ρ ρ' : Nat → FV} : ∀ {xs : List (Nat × Nat × X)}, (∀ t ∈ (xs.map fun p => p.2.2).flatMap xs1, ρ' t = ρ t) → exps ρ' xs = exps ρ xs
  | [], _ => rfl
  | (o, n, x) :: xs, h => by
    simp only [exps]
    rw [exv_congr (fun t ht => h t (by simp [ht])), exps_congr (fun t ht => h t (by rw [List.map_cons, List.flatMap_cons]; exact List.mem_append_right _ ht))]

theorem bnd_congr {ρ ρ' : Nat → FV} {d : Int} {x : Option X} (h : ∀ t ∈ x.toList.flatMap xs1, ρ' t = ρ t) : bnd ρ' d x = bnd ρ d x := by
  cases x with
  | none => rfl
  | some x => simp only [bnd]; rw [exv_congr fun t ht => h t (by simpa using ht)]

/-- Operations that make a value out of values alone. -/
def CK.plain : CK → Bool
  | .mov _ | .pick .. | .bin .. | .beq .. | .aeq .. | .un .. | .toInt .. | .str _ | .fld .. | .idx .. | .idxA .. | .build .. | .ext .. | .iadr .. | .slc .. | .slc3 .. | .slcS .. | .lenS _ | .lenT _ | .mx .. | .mn .. | .fn .. | .nilc _ | .mkV .. | .pureC .. => true
  | _ => false

theorem plain_loc {m : Md} {s u s' : St} {k : CK} {f : FV} (hk : k.plain = true) (h : stepK m s k = some (f, s')) (hr : ∀ t ∈ k.ops.flatMap xs1, u.ρ t = s.ρ t) : s' = s ∧ stepK m u k = some (f, u) := by
  cases k with
  | mov x =>
    have e := ex_congr (x := x) fun t ht => hr t (by simp [CK.ops, ht])
    simp only [stepK, movK, e] at h ⊢
    split at h
    · rename_i f' hf; cases h; exact ⟨rfl, by first | rfl | (simp [St.val, ofV, *]; done)⟩
    · cases h
  | pick c a b =>
    have e1 := exv_congr (x := c) fun t ht => hr t (by simp [CK.ops, ht])
    have e2 := exv_congr (x := a) fun t ht => hr t (by simp [CK.ops, ht])
    have e3 := exv_congr (x := b) fun t ht => hr t (by simp [CK.ops, ht])
    simp only [stepK, pickK, e1, e2, e3] at h ⊢
    split at h
    · simp only [St.val] at h; cases h; exact ⟨rfl, by first | rfl | (simp [St.val, ofV, *]; done)⟩
    · cases h
  | bin op x y =>
    have e1 := exv_congr (x := x) fun t ht => hr t (by simp [CK.ops, ht])
    have e2 := exv_congr (x := y) fun t ht => hr t (by simp [CK.ops, ht])
    simp only [stepK, binK, e1, e2] at h ⊢
    split at h
    · rename_i p q _ _
      cases hb : binV op p q <;> simp only [ofV, hb] at h ⊢ <;> cases h
      exact ⟨rfl, by first | rfl | (simp [St.val, ofV, *]; done)⟩
    · cases h
  | beq neg x y =>
    have e1 := exv_congr (x := x) fun t ht => hr t (by simp [CK.ops, ht])
    have e2 := exv_congr (x := y) fun t ht => hr t (by simp [CK.ops, ht])
    simp only [stepK, beqK, e1, e2] at h ⊢
    split at h
    · simp only [St.val] at h; cases h; exact ⟨rfl, by first | rfl | (simp [St.val, ofV, *]; done)⟩
    · cases h
  | aeq neg ks x y =>
    have e1 := exv_congr (x := x) fun t ht => hr t (by simp [CK.ops, ht])
    have e2 := exv_congr (x := y) fun t ht => hr t (by simp [CK.ops, ht])
    simp only [stepK, aeqK, e1, e2] at h ⊢
    split at h
    · split at h
      · simp only [St.val] at h; cases h; exact ⟨rfl, by first | rfl | (simp [St.val, ofV, *]; done)⟩
      · cases h
    · cases h
  | un op x =>
    have e1 := exv_congr (x := x) fun t ht => hr t (by simp [CK.ops, ht])
    simp only [stepK, unK, e1] at h ⊢
    split at h
    · rename_i p _
      cases hb : unV op p <;> simp only [ofV, hb] at h ⊢ <;> cases h
      exact ⟨rfl, by first | rfl | (simp [St.val, ofV, *]; done)⟩
    · cases h
  | toInt kk x =>
    have e1 := exv_congr (x := x) fun t ht => hr t (by simp [CK.ops, ht])
    simp only [stepK, toIntK, e1] at h ⊢
    split at h
    · simp only [St.val] at h; cases h; exact ⟨rfl, by first | rfl | (simp [St.val, ofV, *]; done)⟩
    · cases h
  | str x =>
    have e1 := exv_congr (x := x) fun t ht => hr t (by simp [CK.ops, ht])
    simp only [stepK, strK, e1] at h ⊢
    split at h
    · simp only [St.val] at h; cases h; exact ⟨rfl, by first | rfl | (simp [St.val, ofV, *]; done)⟩
    · cases h
  | fld off n agg x =>
    have e1 := exv_congr (x := x) fun t ht => hr t (by simp [CK.ops, ht])
    simp only [stepK, fldK, e1] at h ⊢
    split at h
    · rename_i cs _
      split at h
      · simp only [St.val] at h; cases h; exact ⟨rfl, by first | rfl | (simp [St.val, ofV, *]; done)⟩
      · cases hb : cs[off]? <;> simp only [ofV, hb] at h ⊢ <;> cases h
        exact ⟨rfl, by first | rfl | (simp [St.val, ofV, *]; done)⟩
    · cases h
  | idxA n x i =>
    have e1 := exv_congr (x := x) fun t ht => hr t (by simp [CK.ops, ht])
    have e2 := exv_congr (x := i) fun t ht => hr t (by simp [CK.ops, ht])
    simp only [stepK, idxAK, e1, e2] at h ⊢
    split at h
    · rename_i cs k z _ _
      split at h
      · rename_i hz
        rw [if_pos hz]
        cases hb : cs[z.toNat]? <;> simp only [ofV, hb] at h ⊢ <;> cases h
        exact ⟨rfl, by first | rfl | (simp [St.val, ofV, *]; done)⟩
      · cases h
    · cases h
  | idx x i =>
    have e1 := exv_congr (x := x) fun t ht => hr t (by simp [CK.ops, ht])
    have e2 := exv_congr (x := i) fun t ht => hr t (by simp [CK.ops, ht])
    simp only [stepK, idxK, e1, e2] at h ⊢
    split at h
    · split at h
      · split at h
        · simp only [St.val] at h; cases h; exact ⟨rfl, by first | rfl | (simp [St.val, ofV, *]; done)⟩
        · cases h
      · cases h
    · cases h
  | build zero parts =>
    have e1 := exps_congr (xs := parts) fun t ht => hr t (by simpa [CK.ops] using ht)
    simp only [stepK, buildK, e1] at h ⊢
    split at h
    · split at h
      · simp only [St.val] at h; cases h; exact ⟨rfl, by first | rfl | (simp [St.val, ofV, *]; done)⟩
      · cases h
    · cases h
  | ext x i =>
    have e1 := exv_congr (x := x) fun t ht => hr t (by simp [CK.ops, ht])
    simp only [stepK, extK, e1] at h ⊢
    split at h
    · rename_i vs _
      cases hb : vs[i]? <;> simp only [ofV, hb] at h ⊢ <;> cases h
      exact ⟨rfl, by first | rfl | (simp [St.val, ofV, *]; done)⟩
    · cases h
  | iadr esz x i =>
    have e1 := exv_congr (x := x) fun t ht => hr t (by simp [CK.ops, ht])
    have e2 := exv_congr (x := i) fun t ht => hr t (by simp [CK.ops, ht])
    simp only [stepK, iadrK, e1, e2] at h ⊢
    split at h
    · split at h
      · rename_i hc; cases h; exact ⟨rfl, by first | rfl | (simp [St.val, ofV, *]; done)⟩
      · cases h
    · cases h
  | slc esz x lo hi =>
    have e1 := exv_congr (x := x) fun t ht => hr t (by simp [CK.ops, ht])
    have e2 : ∀ d, bnd u.ρ d lo = bnd s.ρ d lo := fun d => bnd_congr (x := lo) fun t ht => hr t (by simp only [CK.ops, List.flatMap_cons, List.flatMap_append, List.mem_append]; exact .inr (.inl ht))
    have e3 : ∀ d, bnd u.ρ d hi = bnd s.ρ d hi := fun d => bnd_congr (x := hi) fun t ht => hr t (by simp only [CK.ops, List.flatMap_cons, List.flatMap_append, List.mem_append]; exact .inr (.inr ht))
    simp only [stepK, slcK, e1, e2, e3] at h ⊢
    split at h
    · split at h
      · split at h
        · simp only [St.val] at h; cases h; exact ⟨rfl, by first | rfl | (simp [St.val, ofV, *]; done)⟩
        · cases h
      · cases h
    · split at h
      · split at h
        · rename_i hc; simp only [St.val] at h; cases h; exact ⟨rfl, by first | rfl | (simp [St.val, ofV, *]; done)⟩
        · cases h
      · cases h
    · cases h
  | slc3 esz x lo hi mx =>
    have e1 := exv_congr (x := x) fun t ht => hr t (by simp [CK.ops, ht])
    have e2 := exv_congr (x := lo) fun t ht => hr t (by simp [CK.ops, ht])
    have e3 := exv_congr (x := hi) fun t ht => hr t (by simp [CK.ops, ht])
    have e4 := exv_congr (x := mx) fun t ht => hr t (by simp [CK.ops, ht])
    simp only [stepK, slc3K, e1, e2, e3, e4] at h ⊢
    split at h
    · split at h
      · split at h
        · simp only [St.val] at h; cases h; exact ⟨rfl, by first | rfl | (simp [St.val, ofV, *]; done)⟩
        · cases h
      · cases h
    · split at h
      · split at h
        · simp only [St.val] at h; cases h; exact ⟨rfl, by first | rfl | (simp [St.val, ofV, *]; done)⟩
        · cases h
      · cases h
    · cases h
  | slcS x lo hi =>
    have e1 := exv_congr (x := x) fun t ht => hr t (by simp [CK.ops, ht])
    have e2 : ∀ d, bnd u.ρ d lo = bnd s.ρ d lo := fun d => bnd_congr (x := lo) fun t ht => hr t (by simp only [CK.ops, List.flatMap_cons, List.flatMap_append, List.mem_append]; exact .inr (.inl ht))
    have e3 : ∀ d, bnd u.ρ d hi = bnd s.ρ d hi := fun d => bnd_congr (x := hi) fun t ht => hr t (by simp only [CK.ops, List.flatMap_cons, List.flatMap_append, List.mem_append]; exact .inr (.inr ht))
    simp only [stepK, slcSK, e1, e2, e3] at h ⊢
    split at h
    · split at h
      · split at h
        · rename_i hc; simp only [St.val] at h; cases h; exact ⟨rfl, by first | rfl | (simp [St.val, ofV, *]; done)⟩
        · cases h
      · cases h
    · cases h
  | lenS x =>
    have e1 := exv_congr (x := x) fun t ht => hr t (by simp [CK.ops, ht])
    simp only [stepK, lenSK, e1] at h ⊢
    split at h
    · simp only [St.val] at h; cases h; exact ⟨rfl, by first | rfl | (simp [St.val, ofV, *]; done)⟩
    · simp only [St.val] at h; cases h; exact ⟨rfl, by first | rfl | (simp [St.val, ofV, *]; done)⟩
    · cases h
  | lenT x =>
    have e1 := exv_congr (x := x) fun t ht => hr t (by simp [CK.ops, ht])
    simp only [stepK, lenTK, e1] at h ⊢
    split at h
    · simp only [St.val] at h; cases h; exact ⟨rfl, by first | rfl | (simp [St.val, ofV, *]; done)⟩
    · cases h
  | mx x y =>
    have e1 := exv_congr (x := x) fun t ht => hr t (by simp [CK.ops, ht])
    have e2 := exv_congr (x := y) fun t ht => hr t (by simp [CK.ops, ht])
    simp only [stepK, mxK, e1, e2] at h ⊢
    split at h
    · simp only [St.val] at h; cases h; exact ⟨rfl, by first | rfl | (simp [St.val, ofV, *]; done)⟩
    · cases h
  | mn x y =>
    have e1 := exv_congr (x := x) fun t ht => hr t (by simp [CK.ops, ht])
    have e2 := exv_congr (x := y) fun t ht => hr t (by simp [CK.ops, ht])
    simp only [stepK, mnK, e1, e2] at h ⊢
    split at h
    · simp only [St.val] at h; cases h; exact ⟨rfl, by first | rfl | (simp [St.val, ofV, *]; done)⟩
    · cases h
  | fn g caps =>
    have e1 := exvs_congr (xs := caps) fun t ht => hr t (by simpa [CK.ops] using ht)
    simp only [stepK, fnK, e1] at h ⊢
    split at h
    · simp only [St.val] at h; cases h; exact ⟨rfl, by first | rfl | (simp [St.val, ofV, *]; done)⟩
    · cases h
  | pureC g args =>
    have e1 := exvs_congr (xs := args) fun t ht => hr t (by simpa [CK.ops] using ht)
    simp only [stepK, pureK, e1] at h ⊢
    split at h
    · split at h
      · simp only [St.val] at h; cases h; exact ⟨rfl, by first | rfl | (simp [St.val, ofV, *]; done)⟩
      · cases h
    · cases h
  | nilc x =>
    have e1 := ex_congr (x := x) fun t ht => hr t (by simp [CK.ops, ht])
    simp only [stepK, nilcK, e1] at h ⊢
    split at h
    · simp only [St.val] at h; cases h; exact ⟨rfl, by first | rfl | (simp [St.val, ofV, *]; done)⟩
    · simp only [St.val] at h; cases h; exact ⟨rfl, by first | rfl | (simp [St.val, ofV, *]; done)⟩
    · cases h
  | mkV len esz zero parts =>
    have e1 := exps_congr (xs := parts.map fun p => (p.1 * esz, esz, p.2)) (ρ := s.ρ) (ρ' := u.ρ) fun t ht => hr t (by simpa [CK.ops, List.map_map, Function.comp_def] using ht)
    simp only [stepK, mkVK, mkCells, e1] at h ⊢
    split at h
    · rename_i cs hcs; cases h; exact ⟨rfl, by first | rfl | (simp [St.val, ofV, *]; done)⟩
    · cases h
  | _ => simp [CK.plain] at hk

/-- Two states that agree on what an operation looks at. -/
structure Agr (i : Inf) (s u : St) : Prop where
  rd : ∀ x ∈ i.rd, u.ρ x = s.ρ x
  gn : i.gn = true → u.gn = s.gn
  he : i.he ≠ 0 → u.H = s.H
  hr : ∀ id ∈ i.hr, u.H[id]? = s.H[id]?

/-- What an operation does at another state. -/
structure Loc2 (i : Inf) (t u t' : St) : Prop where
  wt : ∀ x ∈ i.wt, t'.ρ x = t.ρ x
  ot : ∀ x, x ∉ i.wt → t'.ρ x = u.ρ x
  gn : t'.gn = if i.gn = true then t.gn else u.gn
  H : t'.H = if i.he = 0 then u.H else t.H

section
variable {E : Env} {m : Md} {ev : Evf}

theorem deref_congr {s u : St} {ρx : X} {ad : Ad} (ha : adr s.ρ ρx = some ad) (h1 : ∀ t ∈ (adInf s.ρ ρx).1, u.ρ t = s.ρ t) (h2 : ∀ id ∈ (adInf s.ρ ρx).2, u.H[id]? = s.H[id]?) : deref u ad = deref s ad := by
  unfold adInf at h1 h2
  rw [ha] at h1 h2
  cases ad with
  | hp id off gen => simp only [deref, h2 id (by simp)]
  | box t g off => simp only [deref, h1 t (by simp)]

theorem live_congr {s u : St} {ρx : X} {ad : Ad} (ha : adr s.ρ ρx = some ad) (h1 : ∀ t ∈ (adInf s.ρ ρx).1, u.ρ t = s.ρ t) : ad.live u.ρ = ad.live s.ρ := by
  unfold adInf at h1
  rw [ha] at h1
  cases ad with
  | hp id off gen => rfl
  | box t g off => simp only [Ad.live, h1 t (by simp)]

theorem src_congr {H H' : Hp} {esz : Nat} {f : FV} (h : ∀ id ∈ srcInf f, H'[id]? = H[id]?) : srcOf H' esz f = srcOf H esz f := by
  cases f with
  | val v =>
    have hrow : rowOf H' v = rowOf H v := by
      unfold rowOf
      split
      · rename_i id off e len cap
        rw [h id (by simp [srcInf, idsOf])]
      · rfl
    unfold srcOf
    split
    · rfl
    · rename_i v' _ he
      cases he
      rw [hrow]
    · rename_i he; cases he
    · rfl
  | bx g cs => rfl
  | vp t g off => rfl
  | vs n cs => rfl
  | junk => rfl

theorem stepC_none {draw : Bool} {s : St} {k : CK} (h : callee s k = none) : stepC E m draw ev s k = stepK m s k := by
  unfold stepC
  rw [h]

theorem callee_congr {s u : St} {k : CK} (h : ∀ x ∈ k.ops.flatMap xs1, u.ρ x = s.ρ x) : callee u k = callee s k := by
  cases k <;> first | rfl | skip
  · rename_i f args
    simp only [callee]
    rw [exvs_congr fun t ht => h t (by simpa [CK.ops] using ht)]
  · rename_i x args
    simp only [callee]
    rw [exv_congr (x := x) fun t ht => h t (by simp [CK.ops, ht]), exvs_congr (xs := args) fun t ht => h t (by simp only [CK.ops, List.flatMap_cons, List.mem_append]; exact .inr ht)]

theorem plain_inf {pw : Nat → Bool} {s : St} {k : CK} (h : k.plain = true) : infK pw s k = { rd := k.ops.flatMap xs1, wt := [], hr := [], he := 0, ha := [] } := by
  cases k <;> first | rfl | (simp [CK.plain] at h)

theorem plain_callee {s : St} {k : CK} (h : k.plain = true) : callee s k = none := by
  cases k <;> first | rfl | (simp [CK.plain] at h)

theorem stepC_loc {pw : Nat → Bool} (hpw : E.pw = pw) {s t u : St} {k : CK} {f : FV} (h : stepC E m true ev s k = some (f, t)) (ha : Agr (infK pw s k) s u) :
    ∃ t', stepC E m true ev u k = some (f, t') ∧ infK pw u k = infK pw s k ∧ Loc2 (infK pw s k) t u t' := by
  subst hpw
  by_cases hp : k.plain = true
  · have e := plain_inf (pw := E.pw) (s := s) hp
    rw [e] at ha ⊢
    rw [stepC_none (plain_callee hp)] at h
    obtain ⟨rfl, h2⟩ := plain_loc (u := u) hp h ha.rd
    exact ⟨u, by rw [stepC_none (plain_callee hp)]; exact h2, plain_inf hp, ⟨fun x hx => (by cases hx), fun x _ => rfl, rfl, rfl⟩⟩
  cases k with
  | fadr off x =>
    have hr := ha.rd
    simp only [infK] at hr
    have e1 := adr_congr (x := x) (ρ := s.ρ) (ρ' := u.ρ) fun t ht => hr t (List.mem_append_left _ (by simp [CK.ops, ht]))
    have e2 : infK E.pw u (.fadr off x) = infK E.pw s (.fadr off x) := by simp only [infK, adInf, e1]
    simp only [stepC, callee, stepK, fadrK, e1] at h ⊢
    split at h
    · rename_i ad had
      have hl := live_congr (u := u) had fun t ht => hr t (List.mem_append_right _ ht)
      split at h
      · rename_i hlive
        cases h
        exact ⟨u, by simp only [had, hl, hlive, if_true], e2, ⟨fun x hx => (by cases hx), fun x _ => rfl, rfl, rfl⟩⟩
      · cases h
    · cases h
  | iadrA len esz x i =>
    have hr := ha.rd
    simp only [infK] at hr
    have e1 := adr_congr (x := x) (ρ := s.ρ) (ρ' := u.ρ) fun t ht => hr t (List.mem_append_left _ (by simp [CK.ops, ht]))
    have e3 := exv_congr (x := i) (ρ := s.ρ) (ρ' := u.ρ) fun t ht => hr t (List.mem_append_left _ (by simp [CK.ops, ht]))
    have e2 : infK E.pw u (.iadrA len esz x i) = infK E.pw s (.iadrA len esz x i) := by simp only [infK, adInf, e1]
    simp only [stepC, callee, stepK, iadrAK, e1, e3] at h ⊢
    split at h
    · rename_i ad _ n had _
      have hl := live_congr (u := u) had fun t ht => hr t (List.mem_append_right _ ht)
      split at h
      · rename_i hc
        cases h
        refine ⟨u, ?_, e2, ⟨fun x hx => (by cases hx), fun x _ => rfl, rfl, rfl⟩⟩
        simp only [*]
        first | rfl | (rw [if_pos (by simp_all)])
      · cases h
    · cases h
  | load n agg x =>
    have hr := ha.rd
    have hh := ha.hr
    simp only [infK] at hr hh
    have e1 := adr_congr (x := x) (ρ := s.ρ) (ρ' := u.ρ) fun t ht => hr t (List.mem_append_left _ (by simp [CK.ops, ht]))
    have e2 : infK E.pw u (.load n agg x) = infK E.pw s (.load n agg x) := by simp only [infK, adInf, e1]
    simp only [stepC, callee, stepK, loadK, e1] at h ⊢
    cases had : adr s.ρ x with
    | none => simp only [had] at h; cases h
    | some ad =>
      have hd := deref_congr (u := u) had (fun t ht => hr t (List.mem_append_right _ ht)) hh
      simp only [had] at h ⊢
      rw [hd]
      cases hde : deref s ad with
      | none => simp only [hde] at h; cases h
      | some p =>
        obtain ⟨os, off⟩ := p
        simp only [hde] at h ⊢
        refine ⟨u, ?_, e2, ⟨fun x hx => (by cases hx), fun x _ => rfl, rfl, rfl⟩⟩
        split at h
        · split at h
          · rename_i hc; simp only [St.val] at h; cases h; first | rfl | (simp [*]; rfl)
          · cases h
        · cases hb : os[off]? <;> simp only [ofV, hb] at h ⊢ <;> cases h
          first | rfl | (simp [*])
  | store n x v =>
    have e1 : adr u.ρ x = adr s.ρ x := adr_congr (x := x) fun t ht => ha.rd t (by
      simp only [infK]
      split
      · exact List.mem_append_left _ (by simp [CK.ops, ht])
      · simp [CK.ops, ht])
    have e3 : exc u.ρ v = exc s.ρ v := exc_congr (x := v) fun t ht => ha.rd t (by
      simp only [infK]
      split
      · exact List.mem_append_left _ (by simp [CK.ops, ht])
      · simp [CK.ops, ht])
    have e2 : infK E.pw u (.store n x v) = infK E.pw s (.store n x v) := by simp only [infK, e1]
    simp only [stepC, callee, stepK, storeK, e1, e3] at h ⊢
    cases had : adr s.ρ x with
    | none => simp only [had] at h; cases h
    | some ad =>
      cases hvs : exc s.ρ v with
      | none => simp only [had, hvs] at h; cases h
      | some vs =>
        simp only [had, hvs] at h ⊢
        cases ad with
        | hp id off gen =>
          have hi : infK E.pw s (.store n x v) = { rd := (CK.store n x v).ops.flatMap xs1, wt := [], hr := [], he := 3, ha := [] } := by simp only [infK, had]
          have hH : u.H = s.H := ha.he (by rw [hi]; simp)
          have hd : deref u (.hp id off gen) = deref s (.hp id off gen) := by simp only [deref, hH]
          rw [hd]
          cases hde : deref s (.hp id off gen) with
          | none => simp only [hde] at h; cases h
          | some p =>
            obtain ⟨os, off'⟩ := p
            simp only [hde] at h ⊢
            split at h
            · rename_i hc1
              split at h
              · rename_i hc2
                cases h
                refine ⟨{ u with H := u.H.set id (spl os off' vs) }, ?_, e2, ?_⟩
                · simp only [if_pos hc1, if_pos hc2]
                · rw [hi]
                  exact ⟨fun x hx => (by cases hx), fun x _ => rfl, rfl, by simp [hH]⟩
              · cases h
            · cases h
        | box t' g off =>
          have hi : infK E.pw s (.store n x v) = { rd := (CK.store n x v).ops.flatMap xs1 ++ [t'], wt := [t'], hr := [], he := 0, ha := [] } := by simp only [infK, had]
          have ht : u.ρ t' = s.ρ t' := ha.rd t' (by rw [hi]; simp)
          have hd : deref u (.box t' g off) = deref s (.box t' g off) := by simp only [deref, ht]
          rw [hd]
          cases hde : deref s (.box t' g off) with
          | none => simp only [hde] at h; cases h
          | some p =>
            obtain ⟨os, off'⟩ := p
            simp only [hde] at h ⊢
            split at h
            · rename_i hc1
              cases h
              refine ⟨{ u with ρ := upd u.ρ (some t') (.bx g (spl os off' vs)) }, ?_, e2, ?_⟩
              · simp only [if_pos hc1]
              · rw [hi]
                refine ⟨fun x hx => ?_, fun x hx => ?_, rfl, rfl⟩
                · have : x = t' := by simpa using hx
                  subst this
                  simp [upd]
                · have : x ≠ t' := by simpa using hx
                  simp [upd, this]
            · cases h
  | newV zero =>
    have hg : u.gn = s.gn := ha.gn rfl
    simp only [stepC, callee, stepK, newVK] at h ⊢
    cases h
    exact ⟨{ u with gn := u.gn + 1 }, by rw [hg], rfl, ⟨fun x hx => (by cases hx), fun x _ => rfl, by simp [infK, hg], rfl⟩⟩
  | boxV x =>
    have hg : u.gn = s.gn := ha.gn rfl
    have hr := ha.rd
    simp only [infK] at hr
    have e1 := exc_congr (x := x) (ρ := s.ρ) (ρ' := u.ρ) fun t ht => hr t (by simp [CK.ops, ht])
    simp only [stepC, callee, stepK, boxVK, newVK, e1] at h ⊢
    cases hvs : exc s.ρ x with
    | none => simp only [hvs] at h; cases h
    | some vs =>
      simp only [hvs] at h ⊢
      cases h
      exact ⟨{ u with gn := u.gn + 1 }, by rw [hg], rfl, ⟨fun x hx => (by cases hx), fun x _ => rfl, by simp [infK, hg], rfl⟩⟩
  | b2s x =>
    have hr := ha.rd
    have hh := ha.hr
    simp only [infK] at hr hh
    have e1 := ex_congr (x := x) (ρ := s.ρ) (ρ' := u.ρ) fun t ht => hr t (by simp [CK.ops, ht])
    have e2 : infK E.pw u (.b2s x) = infK E.pw s (.b2s x) := by simp only [infK, e1]
    have e3 := src_congr (H := s.H) (H' := u.H) (esz := 1) (f := ex s.ρ x) hh
    simp only [stepC, callee, stepK, b2sK, e1, e3] at h ⊢
    split at h
    · split at h
      · simp only [St.val] at h; cases h
        exact ⟨u, by first | rfl | (simp [St.val, *]; done), e2, ⟨fun x hx => (by cases hx), fun x _ => rfl, rfl, rfl⟩⟩
      · cases h
    · cases h
  | newO zero =>
    have hH : u.H = s.H := ha.he (by simp [infK])
    simp only [stepC, callee, stepK, newOK] at h ⊢
    cases h
    exact ⟨{ u with H := u.H ++ [zero] }, by rw [hH], by simp only [infK, hH], ⟨fun x hx => (by cases hx), fun x _ => rfl, rfl, by simp [infK, hH]⟩⟩
  | boxO x =>
    have hH : u.H = s.H := ha.he (by simp [infK])
    have hr := ha.rd
    simp only [infK] at hr
    have e1 := exc_congr (x := x) (ρ := s.ρ) (ρ' := u.ρ) fun t ht => hr t (by simp [CK.ops, ht])
    simp only [stepC, callee, stepK, boxOK, newOK, e1] at h ⊢
    cases hvs : exc s.ρ x with
    | none => simp only [hvs] at h; cases h
    | some vs =>
      simp only [hvs] at h ⊢
      cases h
      exact ⟨{ u with H := u.H ++ [vs] }, by rw [hH], by simp only [infK, hH], ⟨fun x hx => (by cases hx), fun x _ => rfl, rfl, by simp [infK, hH]⟩⟩
  | mkO len esz zero parts =>
    have hH : u.H = s.H := ha.he (by simp [infK])
    have hr := ha.rd
    simp only [infK] at hr
    have e1 := exps_congr (xs := parts.map fun p => (p.1 * esz, esz, p.2)) (ρ := s.ρ) (ρ' := u.ρ) fun t ht => hr t (by simpa [CK.ops, List.map_map, Function.comp_def] using ht)
    simp only [stepC, callee, stepK, mkOK, mkCells, e1] at h ⊢
    split at h
    · rename_i cs hcs
      cases h
      exact ⟨{ u with H := u.H ++ [cs] }, by simp only [hcs, hH], by simp only [infK, hH], ⟨fun x hx => (by cases hx), fun x _ => rfl, rfl, by simp [infK, hH]⟩⟩
    · cases h
  | makeS esz bytes zero l c =>
    have hH : u.H = s.H := ha.he (by simp [infK])
    have hr := ha.rd
    simp only [infK] at hr
    have e1 := exv_congr (x := l) (ρ := s.ρ) (ρ' := u.ρ) fun t ht => hr t (by simp [CK.ops, ht])
    have e2 := exv_congr (x := c) (ρ := s.ρ) (ρ' := u.ρ) fun t ht => hr t (by simp [CK.ops, ht])
    simp only [stepC, callee, stepK, makeSK, e1, e2, hH] at h ⊢
    split at h
    · rename_i l' c' _ _
      split at h
      · rename_i hc
        cases h
        exact ⟨{ u with H := u.H ++ [zeros c'.toNat zero] }, by simp only [if_pos hc, hH], by simp only [infK, hH], ⟨fun x hx => (by cases hx), fun x _ => rfl, rfl, by simp [infK, hH]⟩⟩
      · cases h
    · cases h
  | s2b esz x =>
    have hH : u.H = s.H := ha.he (by simp [infK])
    have hr := ha.rd
    simp only [infK] at hr
    have e1 := exv_congr (x := x) (ρ := s.ρ) (ρ' := u.ρ) fun t ht => hr t (by simp [CK.ops, ht])
    simp only [stepC, callee, stepK, s2bK, e1, hH] at h ⊢
    split at h
    · rename_i b _
      cases h
      exact ⟨{ u with H := u.H ++ [b.data.toList.map fun c => Value.int .u8 c.toNat] }, by rw [hH], by simp only [infK, hH], ⟨fun x hx => (by cases hx), fun x _ => rfl, rfl, by simp [infK, hH]⟩⟩
    · cases h
  | app esz bytes x y =>
    have hH : u.H = s.H := ha.he (by simp [infK])
    have hr := ha.rd
    simp only [infK] at hr
    have e1 := exv_congr (x := x) (ρ := s.ρ) (ρ' := u.ρ) fun t ht => hr t (by simp [CK.ops, ht])
    have e2 := ex_congr (x := y) (ρ := s.ρ) (ρ' := u.ρ) fun t ht => hr t (by simp [CK.ops, ht])
    obtain ⟨uρ, ugn, uH⟩ := u
    simp only at hH e1 e2
    subst hH
    have key : ∀ r : FV × St, appK m s esz bytes x y = some r → appK m ⟨uρ, ugn, s.H⟩ esz bytes x y = some (r.1, ⟨uρ, ugn, r.2.H⟩) := fun r hr => by
      simp only [appK, e1, e2] at hr ⊢
      split at hr
      · split at hr
        · rename_i hn
          rw [if_pos hn]
          split at hr
          · simp only [St.val] at hr; cases hr; rfl
          · simp only [St.val] at hr; cases hr; rfl
          · cases hr
        · rename_i hn
          rw [if_neg hn]
          split at hr
          · split at hr
            · rename_i hc
              cases hr; simp only [if_pos hc]
            · cases hr
          · split at hr
            · rename_i ho
              try simp only [ho]
              split at hr
              · rename_i hc
                rw [if_pos hc]
                split at hr
                · rename_i hc2
                  cases hr; rw [if_pos hc2]
                · rename_i hc2
                  rw [if_neg hc2]
                  split at hr
                  · rename_i hc3
                    cases hr; rw [if_pos hc3]
                  · cases hr
              · cases hr
            · cases hr
          · cases hr
      · cases hr
    exact ⟨_, key _ h, by simp only [infK, e1], ⟨fun x hx => (by cases hx), fun x _ => rfl, rfl, by simp [infK]⟩⟩
  | cpy esz x y =>
    have hH : u.H = s.H := ha.he (by simp [infK])
    have hr := ha.rd
    simp only [infK] at hr
    have e1 := exv_congr (x := x) (ρ := s.ρ) (ρ' := u.ρ) fun t ht => hr t (by simp [CK.ops, ht])
    have e2 := ex_congr (x := y) (ρ := s.ρ) (ρ' := u.ρ) fun t ht => hr t (by simp [CK.ops, ht])
    obtain ⟨uρ, ugn, uH⟩ := u
    simp only at hH e1 e2
    subst hH
    have key : ∀ r : FV × St, cpyK m s esz x y = some r → cpyK m ⟨uρ, ugn, s.H⟩ esz x y = some (r.1, ⟨uρ, ugn, r.2.H⟩) := fun r hr => by
      simp only [cpyK, e1, e2] at hr ⊢
      split at hr
      · simp only [St.val] at hr; cases hr; rfl
      · split at hr
        · rename_i ho
          try simp only [ho]
          split at hr
          · rename_i hc
            cases hr; rw [if_pos hc]
          · cases hr
        · cases hr
      · cases hr
    exact ⟨_, key _ h, rfl, ⟨fun x hx => (by cases hx), fun x _ => rfl, rfl, by simp [infK]⟩⟩
  | clr esz zero x =>
    have hH : u.H = s.H := ha.he (by simp [infK])
    have hr := ha.rd
    simp only [infK] at hr
    have e1 := exv_congr (x := x) (ρ := s.ρ) (ρ' := u.ρ) fun t ht => hr t (by simp [CK.ops, ht])
    obtain ⟨uρ, ugn, uH⟩ := u
    simp only at hH e1
    subst hH
    have key : ∀ r : FV × St, clrK m s esz zero x = some r → clrK m ⟨uρ, ugn, s.H⟩ esz zero x = some (r.1, ⟨uρ, ugn, r.2.H⟩) := fun r hr => by
      simp only [clrK, e1] at hr ⊢
      split at hr
      · simp only [St.val] at hr; cases hr; rfl
      · split at hr
        · rename_i ho
          try simp only [ho]
          split at hr
          · rename_i hc
            cases hr; rw [if_pos hc]
          · cases hr
        · cases hr
      · cases hr
    exact ⟨_, key _ h, rfl, ⟨fun x hx => (by cases hx), fun x _ => rfl, rfl, by simp [infK]⟩⟩
  | call g args =>
    have hrd : ∀ t ∈ (CK.call g args).ops.flatMap xs1, u.ρ t = s.ρ t := fun t ht => ha.rd t (by simp only [infK]; split <;> (try split) <;> exact ht)
    have e1 := callee_congr (s := s) (u := u) hrd
    have hH : u.H = s.H := ha.he (by simp only [infK]; split <;> (try split) <;> simp)
    have e2 : infK E.pw u (.call g args) = infK E.pw s (.call g args) := by simp only [infK, e1, hH]
    have hwt : (infK E.pw s (.call g args)).wt = [] ∧ (infK E.pw s (.call g args)).gn = false ∧ (infK E.pw s (.call g args)).he ≠ 0 := by simp only [infK]; split <;> (try split) <;> simp
    unfold stepC at h ⊢
    rw [e1]
    cases hc : callee s (.call g args) with
    | none => rw [hc] at h; simp only [stepK] at h; cases h
    | some p =>
      obtain ⟨f', vs⟩ := p
      rw [hc] at h
      dsimp only at h ⊢
      rw [hH]
      generalize ev (if true = true then m.drawn E.pw s.H f' vs else m) f' vs s.H = res at h ⊢
      cases res with
      | none => cases h
      | some p =>
        obtain ⟨r, H⟩ := p
        cases h
        exact ⟨_, rfl, e2, ⟨fun x hx => (by rw [hwt.1] at hx; cases hx), fun x _ => rfl, by rw [hwt.2.1]; rfl, by rw [if_neg hwt.2.2]⟩⟩
  | callV x args =>
    have hrd : ∀ t ∈ (CK.callV x args).ops.flatMap xs1, u.ρ t = s.ρ t := fun t ht => ha.rd t (by simp only [infK]; split <;> (try split) <;> exact ht)
    have e1 := callee_congr (s := s) (u := u) hrd
    have hH : u.H = s.H := ha.he (by simp only [infK]; split <;> (try split) <;> simp)
    have e2 : infK E.pw u (.callV x args) = infK E.pw s (.callV x args) := by simp only [infK, e1, hH]
    have hwt : (infK E.pw s (.callV x args)).wt = [] ∧ (infK E.pw s (.callV x args)).gn = false ∧ (infK E.pw s (.callV x args)).he ≠ 0 := by simp only [infK]; split <;> (try split) <;> simp
    unfold stepC at h ⊢
    rw [e1]
    cases hc : callee s (.callV x args) with
    | none => rw [hc] at h; simp only [stepK] at h; cases h
    | some p =>
      obtain ⟨f', vs⟩ := p
      rw [hc] at h
      dsimp only at h ⊢
      rw [hH]
      generalize ev (if true = true then m.drawn E.pw s.H f' vs else m) f' vs s.H = res at h ⊢
      cases res with
      | none => cases h
      | some p =>
        obtain ⟨r, H⟩ := p
        cases h
        exact ⟨_, rfl, e2, ⟨fun x hx => (by rw [hwt.1] at hx; cases hx), fun x _ => rfl, by rw [hwt.2.1]; rfl, by rw [if_neg hwt.2.2]⟩⟩
  | _ => simp [CK.plain] at hp

end
end Go.Proofs.YtglboiahgpfjdaaGreat.Ev

/- One region of Go code goes with the machine's, in whatever order Go takes its operations. -/
namespace Go.Proofs.YtglboiahgpfjdaaGreat.Ev
set_option linter.all false
open Go

section
variable {E : Env} {m : Md} {ev : Evf}

theorem on_congr {s u : St} {o : CO} (h : ∀ t b, o.g = some (t, b) → u.ρ t = s.ρ t) : o.on u.ρ = o.on s.ρ := by
  unfold CO.on
  cases hg : o.g with
  | none => rfl
  | some p => obtain ⟨t, b⟩ := p; simp only [h t b hg]

theorem infO_true {pw : Nat → Bool} {s : St} {o : CO} (h : o.on s.ρ = some true) :
    infO pw s o = { infK pw s o.k with rd := gRd o ++ (infK pw s o.k).rd, wt := o.dst.toList ++ (infK pw s o.k).wt } := by
  simp only [infO, h]

theorem infO_false {pw : Nat → Bool} {s : St} {o : CO} (h : o.on s.ρ = some false) :
    infO pw s o = { rd := gRd o, wt := o.dst.toList, hr := [], he := 0, ha := [] } := by
  simp only [infO, h]

theorem stepO_loc {s t u : St} {o : CO} (h : stepO E m true ev s o = some t) (ha : Agr (infO E.pw s o) s u) :
    ∃ t', stepO E m true ev u o = some t' ∧ infO E.pw u o = infO E.pw s o ∧ Loc2 (infO E.pw s o) t u t' := by
  have hon : o.on u.ρ = o.on s.ρ := on_congr fun t b hg => ha.rd t (by
    unfold infO gRd
    simp only [hg]
    split <;> simp)
  unfold stepO at h
  split at h
  · rename_i hs
    rw [infO_true hs] at ha ⊢
    split at h
    · rename_i f s1 hc
      cases h
      obtain ⟨t', h1, h2, h3⟩ := stepC_loc (pw := E.pw) rfl (u := u) hc ⟨fun x hx => ha.rd x (List.mem_append_right _ hx), ha.gn, ha.he, ha.hr⟩
      refine ⟨{ t' with ρ := upd t'.ρ o.dst f }, ?_, ?_, ⟨fun x hx => ?_, fun x hx => ?_, h3.gn, h3.H⟩⟩
      · simp only [stepO, hon, hs, h1]
      · rw [infO_true (hon.trans hs), h2]
      · cases hd : o.dst with
        | none =>
          rw [hd] at hx
          exact h3.wt x (by simpa using hx)
        | some d =>
          rw [hd] at hx
          simp only [upd]
          split
          · rfl
          · rename_i hne
            exact h3.wt x (by simpa [hne] using hx)
      · cases hd : o.dst with
        | none =>
          rw [hd] at hx
          exact h3.ot x (by simpa using hx)
        | some d =>
          rw [hd] at hx
          simp only [upd]
          simp only [Option.toList_some, List.cons_append, List.nil_append, List.mem_cons, not_or] at hx
          rw [if_neg hx.1]
          exact h3.ot x hx.2
    · cases h
  · rename_i hs
    cases h
    rw [infO_false hs] at ha ⊢
    refine ⟨{ u with ρ := upd u.ρ o.dst (.val (.tuple #[])) }, ?_, ?_, ⟨fun x hx => ?_, fun x hx => ?_, rfl, rfl⟩⟩
    · simp only [stepO, hon, hs]
    · rw [infO_false (hon.trans hs)]
    · cases hd : o.dst with
      | none => rw [hd] at hx; simp at hx
      | some d =>
        rw [hd] at hx
        have : x = d := by simpa using hx
        subst this
        simp [upd]
    · cases hd : o.dst with
      | none => rfl
      | some d =>
        rw [hd] at hx
        have : x ≠ d := by simpa using hx
        simp [upd, this]
  · cases h

theorem disj_spec {a b : List Nat} (h : disj a b = true) : ∀ x ∈ a, x ∉ b := fun x hx hb => by
  have := List.all_eq_true.1 h x hx
  simp [hb] at this

theorem stepC_old (hev : EvKp ev) {s t : St} {k : CK} {f : FV} (h : stepC E m true ev s k = some (f, t)) :
    ((infK E.pw s k).he = 1 → ∀ id, id < s.H.length → t.H[id]? = s.H[id]?) ∧ ((infK E.pw s k).he = 2 → ∀ id, id < s.H.length → id ∉ (infK E.pw s k).ha → t.H[id]? = s.H[id]?) := by
  have nocall : (∀ g args, k ≠ .call g args) → (∀ x args, k ≠ .callV x args) → (∀ e b x y, k ≠ .app e b x y) → ¬ (infK E.pw s k).he = 2 := fun h1 h2 h3 => by
    cases k <;> simp only [infK] <;> first
      | exact absurd rfl (h1 _ _)
      | exact absurd rfl (h2 _ _)
      | exact absurd rfl (h3 _ _ _ _)
      | (split <;> simp)
      | simp
  have push : ∀ {r : List Value} {u : St}, u.H = s.H ++ [r] → ∀ id, id < s.H.length → u.H[id]? = s.H[id]? := fun e id hid => by rw [e, List.getElem?_append_left hid]
  have new1 : (infK E.pw s k).he = 1 → (∀ g args, k ≠ .call g args) → (∀ x args, k ≠ .callV x args) → ∀ id, id < s.H.length → t.H[id]? = s.H[id]? := fun h0 h1 h2 => by
    cases k with
    | call g args => exact absurd rfl (h1 _ _)
    | callV x args => exact absurd rfl (h2 _ _)
    | newO zero =>
      simp only [stepC, callee, stepK, newOK] at h
      cases h
      exact push rfl
    | boxO x =>
      simp only [stepC, callee, stepK, boxOK, newOK] at h
      split at h
      · cases h; exact push rfl
      · cases h
    | mkO len esz zero parts =>
      simp only [stepC, callee, stepK, mkOK] at h
      split at h
      · cases h; exact push rfl
      · cases h
    | makeS esz bytes zero l c =>
      simp only [stepC, callee, stepK, makeSK] at h
      split at h
      · split at h
        · cases h; exact push rfl
        · cases h
      · cases h
    | s2b esz x =>
      simp only [stepC, callee, stepK, s2bK] at h
      split at h
      · cases h; exact push rfl
      · cases h
    | store n x v =>
      simp only [infK] at h0
      split at h0 <;> simp at h0
    | _ => simp [infK] at h0
  have app2 : ∀ e b x y, k = .app e b x y → ∀ id, id < s.H.length → id ∉ (infK E.pw s k).ha → t.H[id]? = s.H[id]? := fun e b x y hk id hid hna => by
    subst hk
    simp only [stepC, callee, stepK, appK] at h
    simp only [infK] at hna
    split at h
    · rename_i v n cs hv hsrc
      rw [hv] at hna
      simp only at hna
      split at h
      · split at h
        · simp only [St.val] at h; cases h; rfl
        · simp only [St.val] at h; cases h; rfl
        · cases h
      · split at h
        · split at h
          · cases h; exact push rfl id hid
          · cases h
        · rename_i id' off e' len cap
          have hne : id' ≠ id := fun e2 => hna (by subst e2; simp [idsOf])
          split at h
          · split at h
            · split at h
              · cases h; simp only [List.getElem?_set_ne hne]
              · split at h
                · cases h; simp only [List.getElem?_set_ne hne]
                · cases h
            · cases h
          · cases h
        · cases h
    · cases h
  have main : (∃ g args, k = .call g args) ∨ (∃ x args, k = .callV x args) → ((infK E.pw s k).he = 1 → ∀ id, id < s.H.length → t.H[id]? = s.H[id]?) ∧ ((infK E.pw s k).he = 2 → ∀ id, id < s.H.length → id ∉ (infK E.pw s k).ha → t.H[id]? = s.H[id]?) := fun hk => by
    have hinf : infK E.pw s k = match callee s k with
        | some (f, vs) => if E.pw f then { rd := k.ops.flatMap xs1, wt := [], hr := [], he := 1, ha := [], hb := s.H.length } else { rd := k.ops.flatMap xs1, wt := [], hr := [], he := 2, ha := vs.flatMap idsOf, hb := s.H.length }
        | none => { rd := k.ops.flatMap xs1, wt := [], hr := [], he := 3, ha := [] } := by
      rcases hk with ⟨g, args, rfl⟩ | ⟨x, args, rfl⟩ <;> rfl
    rw [hinf]
    unfold stepC at h
    cases hc : callee s k with
    | none => simp
    | some p =>
      obtain ⟨f', vs⟩ := p
      rw [hc] at h
      dsimp only at h ⊢
      cases he : ev (if true = true then m.drawn E.pw s.H f' vs else m) f' vs s.H with
      | none => rw [he] at h; cases h
      | some p =>
        obtain ⟨r, H⟩ := p
        rw [he] at h
        cases h
        have hk := hev _ _ _ _ _ _ he
        constructor
        · intro h1 id hid
          refine hk.wr id ?_ hid
          by_cases hp : E.pw f' = true
          · simp [Md.drawn, hp]; omega
          · simp [hp] at h1
        · intro h1 id hid hna
          refine hk.wr id ?_ hid
          by_cases hp : E.pw f' = true
          · simp [hp] at h1
          · simp only [hp] at hna
            have hna' : (vs.flatMap idsOf).contains id = false := by simpa using hna
            simp only [if_true, Md.drawn, hna']
            simp
            omega
  by_cases h1 : ∃ g args, k = .call g args
  · exact main (.inl h1)
  · by_cases h2 : ∃ x args, k = .callV x args
    · exact main (.inr h2)
    · have c1 : ∀ g args, k ≠ .call g args := fun g args e => h1 ⟨g, args, e⟩
      have c2 : ∀ x args, k ≠ .callV x args := fun x args e => h2 ⟨x, args, e⟩
      refine ⟨fun e => new1 e c1 c2, fun e => ?_⟩
      by_cases h3 : ∃ e b x y, k = .app e b x y
      · obtain ⟨e', b, x, y, hk⟩ := h3
        exact app2 e' b x y hk
      · exact absurd e (nocall c1 c2 fun e b x y hk => h3 ⟨e, b, x, y, hk⟩)

theorem stepO_old (hev : EvKp ev) {s t : St} {o : CO} (h : stepO E m true ev s o = some t) :
    ((infO E.pw s o).he = 1 → ∀ id, id < s.H.length → t.H[id]? = s.H[id]?) ∧ ((infO E.pw s o).he = 2 → ∀ id, id < s.H.length → id ∉ (infO E.pw s o).ha → t.H[id]? = s.H[id]?) := by
  unfold stepO at h
  split at h
  · rename_i hs
    rw [infO_true hs]
    split at h
    · rename_i f s1 hc
      cases h
      exact stepC_old (t := s1) hev hc
    · cases h
  · rename_i hs
    rw [infO_false hs]
    simp
  · cases h

theorem infO_hb {pw : Nat → Bool} {s : St} {o : CO} (h : (infO pw s o).he = 1 ∨ (infO pw s o).he = 2) : (infO pw s o).hb = s.H.length := by
  have hcall : ∀ (k : CK) (r : List Nat), (match callee s k with
        | some (f, vs) => if pw f then ({ rd := r, wt := [], hr := [], he := 1, ha := [], hb := s.H.length } : Inf) else { rd := r, wt := [], hr := [], he := 2, ha := vs.flatMap idsOf, hb := s.H.length }
        | none => { rd := r, wt := [], hr := [], he := 3, ha := [] }).he ≠ 3 → (match callee s k with
        | some (f, vs) => if pw f then ({ rd := r, wt := [], hr := [], he := 1, ha := [], hb := s.H.length } : Inf) else { rd := r, wt := [], hr := [], he := 2, ha := vs.flatMap idsOf, hb := s.H.length }
        | none => { rd := r, wt := [], hr := [], he := 3, ha := [] }).hb = s.H.length := fun k r h => by
    cases hc : callee s k with
    | none => simp [hc] at h
    | some p =>
      obtain ⟨f, vs⟩ := p
      by_cases hp : pw f = true <;> simp [hp]
  have hk : ∀ k : CK, (infK pw s k).he = 1 ∨ (infK pw s k).he = 2 → (infK pw s k).hb = s.H.length := fun k h => by
    have h3 : (infK pw s k).he ≠ 3 := by omega
    cases k with
    | call g args => exact hcall _ _ h3
    | callV x args => exact hcall _ _ h3
    | store n x v =>
      simp only [infK] at h
      split at h <;> simp at h
    | newO zero => rfl
    | boxO x => rfl
    | mkO len esz zero parts => rfl
    | makeS esz bytes zero l c => rfl
    | s2b esz x => rfl
    | app esz bytes x y => rfl
    | _ => simp [infK] at h
  unfold infO at h ⊢
  split
  · rename_i hs
    rw [hs] at h
    exact hk _ h
  · rename_i hs
    split at h
    · rename_i hs'; exact absurd hs' hs
    · simp at h

/-- What one reads of memory, where the other has acted. -/
theorem calm_spec (hev : EvKp ev) {s t : St} {o : CO} (h : stepO E m true ev s o = some t) {b : Inf} (hc : (infO E.pw s o).calm b = true) (h0 : (infO E.pw s o).he = 0 → t.H = s.H) : ∀ id ∈ b.hr, t.H[id]? = s.H[id]? := fun id hid => by
  obtain ⟨o1, o2⟩ := stepO_old hev h
  unfold Inf.calm at hc
  split at hc
  · rename_i e; rw [h0 e]
  · rename_i e
    have := List.all_eq_true.1 hc id hid
    rw [infO_hb (.inl e)] at this
    exact o1 e id (by simpa using this)
  · rename_i e
    have := List.all_eq_true.1 hc id hid
    rw [infO_hb (.inr e)] at this
    simp only [Bool.and_eq_true, decide_eq_true_eq, Bool.not_eq_true'] at this
    exact o2 e id this.1 (by simpa using this.2)
  · have : b.hr = [] := by simpa using hc
    rw [this] at hid
    cases hid

theorem commute (hev : EvKp ev) {s s1 s2 : St} {a b : CO} (ha : stepO E m true ev s a = some s1) (hb : stepO E m true ev s1 b = some s2) (hap : (infO E.pw s a).apart (infO E.pw s1 b) = true) :
    ∃ s1', stepO E m true ev s b = some s1' ∧ stepO E m true ev s1' a = some s2 ∧ infO E.pw s b = infO E.pw s1 b ∧ infO E.pw s1' a = infO E.pw s a := by
  have selfA : Agr (infO E.pw s a) s s := ⟨fun _ _ => rfl, fun _ => rfl, fun _ => rfl, fun _ _ => rfl⟩
  have selfB : Agr (infO E.pw s1 b) s1 s1 := ⟨fun _ _ => rfl, fun _ => rfl, fun _ => rfl, fun _ _ => rfl⟩
  obtain ⟨ta, ga, _, la⟩ := stepO_loc ha selfA
  rw [ha] at ga; cases ga
  obtain ⟨tb, gb, _, lb⟩ := stepO_loc hb selfB
  rw [hb] at gb; cases gb
  generalize hia : infO E.pw s a = ia at *
  generalize hib : infO E.pw s1 b = ib at *
  simp only [Inf.apart, Bool.and_eq_true, Bool.not_eq_true', Bool.and_eq_false_iff, Bool.or_eq_true, beq_iff_eq] at hap
  obtain ⟨⟨⟨⟨⟨⟨p1, p2⟩, p3⟩, p4⟩, p5⟩, p6⟩, p7⟩ := hap
  have hba : ∀ id ∈ ib.hr, s1.H[id]? = s.H[id]? := fun id hid => by
    have := calm_spec hev ha (b := ib) (by rw [hia]; exact p6) (fun e => by rw [hia] at e; have := la.H; rw [if_pos e] at this; exact this) id hid
    exact this
  have agB : Agr ib s1 s := ⟨fun x hx => ((la.ot x fun hw => disj_spec p1 x hw hx)).symm, fun hg => by
      have := la.gn
      have hga : ia.gn = false := by
        rcases p4 with h | h
        · exact h
        · rw [hg] at h; cases h
      rw [hga] at this
      exact this.symm, fun he => by
      have hea : ia.he = 0 := by
        rcases p5 with h | h
        · exact h
        · exact absurd h he
      have := la.H
      rw [if_pos hea] at this
      exact this.symm, fun id hid => (hba id hid).symm⟩
  obtain ⟨s1', g1, g2, l1⟩ := stepO_loc hb (by rw [hib]; exact agB)
  rw [hib] at g2 l1
  have agA : Agr ia s s1' := ⟨fun x hx => l1.ot x fun hw => disj_spec p2 x hw hx, fun hg => by
      have := l1.gn
      have hgb : ib.gn = false := by
        rcases p4 with h | h
        · rw [hg] at h; cases h
        · exact h
      rw [hgb] at this
      exact this, fun he => by
      have heb : ib.he = 0 := by
        rcases p5 with h | h
        · exact absurd h he
        · exact h
      have := l1.H
      rw [if_pos heb] at this
      exact this, fun id hid => by
      have e1 : infO E.pw s b = ib := g2
      exact calm_spec hev g1 (b := ia) (by rw [e1]; exact p7) (fun e => by rw [e1] at e; have := l1.H; rw [if_pos e] at this; exact this) id hid⟩
  obtain ⟨s2', k1, k2, l2⟩ := stepO_loc ha (by rw [hia]; exact agA)
  rw [hia] at k2 l2
  have hρ : s2'.ρ = s2.ρ := by
    funext x
    by_cases hx : x ∈ ia.wt
    · rw [l2.wt x hx]
      exact (lb.ot x fun h => disj_spec p3 x hx h).symm
    · rw [l2.ot x hx]
      by_cases hy : x ∈ ib.wt
      · exact l1.wt x hy
      · rw [l1.ot x hy, lb.ot x hy, la.ot x hx]
  have hgn : s2'.gn = s2.gn := by
    have e1 := l2.gn
    have e2 := l1.gn
    have e3 := lb.gn
    have e4 := la.gn
    cases hga : ia.gn <;> cases hgb : ib.gn <;> simp [hga, hgb] at e1 e2 e3 e4 p4
    · rw [e1, e2, e3, e4]
    · rw [e1, e2]
    · rw [e1, e3]
  have hH : s2'.H = s2.H := by
    have e1 := l2.H
    have e2 := l1.H
    have e3 := lb.H
    have e4 := la.H
    by_cases hga : ia.he = 0 <;> by_cases hgb : ib.he = 0 <;> simp [hga, hgb] at e1 e2 e3 e4 p5
    · rw [e1, e2, e3, e4]
    · rw [e1, e2]
    · rw [e1, e3]
  have : s2' = s2 := by
    cases s2'; cases s2
    simp only at hρ hgn hH
    rw [hρ, hgn, hH]
  subst this
  exact ⟨s1', g1, k1, g2, k2⟩

theorem infR_cons {o : CO} {os : List CO} {s s' : St} (h : stepO E m true ev s o = some s') : infR E m ev (o :: os) s = (o, infO E.pw s o) :: infR E m ev os s' := by
  simp only [infR, h]

theorem runR_cons {draw : Bool} {o : CO} {os : List CO} {s s' t : St} (h : runR E m draw ev (o :: os) s = some t) : ∃ s', stepO E m draw ev s o = some s' ∧ runR E m draw ev os s' = some t := by
  simp only [runR] at h
  split at h
  · rename_i s1 hs; exact ⟨s1, hs, h⟩
  · cases h

/-- An operation that nothing holds back may be taken first. -/
theorem front (hev : EvKp ev) : ∀ {A : List CO} {i : CO} {B : List CO} {s t : St}, runR E m true ev (A ++ i :: B) s = some t → allApart (infR E m ev (A ++ i :: B) s) = true → (∀ a ∈ A, i.pre.contains a.ix = false) →
    ∃ s1 LA LB, stepO E m true ev s i = some s1 ∧ runR E m true ev (A ++ B) s1 = some t ∧ infR E m ev (A ++ i :: B) s = LA ++ (i, infO E.pw s i) :: LB ∧ infR E m ev (A ++ B) s1 = LA ++ LB
  | [], i, B, s, t, h, _, _ => by
    obtain ⟨s1, h1, h2⟩ := runR_cons (s' := s) h
    exact ⟨s1, [], infR E m ev B s1, h1, h2, infR_cons h1, rfl⟩
  | a :: A, i, B, s, t, h, hp, hu => by
    obtain ⟨sa, h1, h2⟩ := runR_cons (s' := s) h
    have e := infR_cons (os := A ++ i :: B) h1
    have hp' : allApart ((a, infO E.pw s a) :: infR E m ev (A ++ i :: B) sa) = true := by rw [← e]; exact hp
    simp only [allApart, Bool.and_eq_true] at hp'
    obtain ⟨sb, LA, LB, g1, g2, g3, g4⟩ := front hev h2 hp'.2 fun x hx => hu x (List.mem_cons_of_mem _ hx)
    have hap : (infO E.pw s a).apart (infO E.pw sa i) = true := by
      have := List.all_eq_true.1 hp'.1 (i, infO E.pw sa i) (by rw [g3]; simp)
      simp only [hu a List.mem_cons_self, Bool.false_or] at this
      exact this
    obtain ⟨s1', c1, c2, c3, c4⟩ := commute hev h1 g1 hap
    refine ⟨s1', (a, infO E.pw s a) :: LA, LB, c1, ?_, ?_, ?_⟩
    · rw [List.cons_append]
      simp only [runR, c2, g2]
    · rw [List.cons_append, e, g3, c3]
      rfl
    · rw [List.cons_append, infR_cons c2, c4, g4]
      rfl

theorem allApart_drop {LA LB : List (CO × Inf)} {x : CO × Inf} (h : allApart (LA ++ x :: LB) = true) : allApart (LA ++ LB) = true := by
  induction LA with
  | nil =>
    obtain ⟨o, i⟩ := x
    simp only [List.nil_append, allApart, Bool.and_eq_true] at h ⊢
    exact h.2
  | cons y LA ih =>
    obtain ⟨o, i⟩ := y
    simp only [List.cons_append, allApart, Bool.and_eq_true] at h ⊢
    refine ⟨?_, ih h.2⟩
    rw [List.all_eq_true] at h ⊢
    intro p hp
    refine h.1 p ?_
    rcases List.mem_append.1 hp with h1 | h1
    · exact List.mem_append_left _ h1
    · exact List.mem_append_right _ (List.mem_cons_of_mem _ h1)

end
end Go.Proofs.YtglboiahgpfjdaaGreat.Ev

/- What the small machine answers, Go answers: operations, regions, code, functions. -/
namespace Go.Proofs.YtglboiahgpfjdaaGreat.Ev
set_option linter.all false
open Go

/-- A way to call that is right: what it answers, Go answers. -/
def SoundEv (P : Program) (B : Nat) (ev : Evf) : Prop :=
  ∀ m f vs H r H', ev m f vs H = some (r, H') → (∀ id, m.wr id = true → B ≤ id) → B ≤ H.length →
    (∃ fn, P.funcs[f]? = some fn ∧ fn.body.isSome = true ∧ (fn.name == "runtime.NumGoroutine") = false) ∧
    ∀ (J : Inj) (w : World) (cs : Array Value), WRel B J H w → LRel J H vs cs.toList →
      Calls P f cs w fun e w' => ∃ v J', e = .returned v ∧ Tr B w.heap.size J H w J' H' w' ∧ WRel B J' H' w' ∧ VRel J' H' r v

/-- What Go answers where a function is told by itself. -/
def PureSound (P : Program) : Prop :=
  ∀ f k v, pureOf f [.int .i64 k] = some v → (∃ fn, P.funcs[f]? = some fn ∧ fn.body.isSome = true ∧ (fn.name == "runtime.NumGoroutine") = false) ∧
    ∀ w : World, Calls P f #[.int .i64 k] w fun e w' => e = .returned v ∧ RowKit.Below w.heap.size w w'

theorem pureOf_inv {f : Nat} {vs : List Value} {v : Value} (h : pureOf f vs = some v) : ∃ k b, vs = [.int .i64 k] ∧ v = .string b := by
  unfold pureOf at h
  split at h
  · split at h
    · cases h; exact ⟨_, _, rfl, rfl⟩
    · cases h
  · cases h

theorem Tr.below {B : Nat} {J : Inj} {H : Hp} {w w' : World} (h : RowKit.Below w.heap.size w w') : Tr B w.heap.size J H w J H w' :=
  ⟨.refl _ _, fun b hb _ => h.block b hb, fun _ l' h => .inl ⟨l', h, rfl⟩, h.size, h.os, h.tape, h.output⟩
theorem WRel.below {B : Nat} {J : Inj} {H : Hp} {w w' : World} (h : RowKit.Below w.heap.size w w') (r : WRel B J H w) : WRel B J H w' :=
  ⟨fun id o ho => by
    obtain ⟨l, ds, e, lo, hi, h1, h2, h3⟩ := r.row id o ho
    have hlt := (Array.getElem?_eq_some_iff.1 h2).1
    exact ⟨l, ds, e, lo, hi, h1, by rw [h.block _ hlt]; exact h2, h3⟩, r.uni, r.dom⟩

section
variable {P : Program} {B N nt : Nat} {E : Env} {m : Md} {ev : Evf} {hv : Nat → Bool}

theorem notCall_spec {x : Option CK} {k : CK} (h : notCall x = some k) : x = some k ∧ k.isCall = false := by
  unfold notCall at h
  split at h
  · split at h
    · cases h
    · rename_i hc; cases h; exact ⟨rfl, by simpa using hc⟩
  · cases h

theorem callee_isCall {s : St} {k : CK} (h : k.isCall = false) : callee s k = none := by
  cases k <;> first | rfl | (simp [CK.isCall] at h)

/-- What a compiled operation comes from. -/
theorem compK_cases {dst : Option Nat} {o : Oper} {k : CK} (h : compK P hv dst o = some k) :
    (compK0 P hv dst o = some k ∧ k.isCall = false) ∨
    (∃ c f xs fn, o.op = .call c ∧ c.callee = .value (.func f) ∧ cxs c.args.toList = some xs ∧ k = .call f xs ∧ P.funcs[f]? = some fn ∧ fn.body.isSome = true ∧ (fn.name == "runtime.NumGoroutine") = false) ∨
    (∃ c x y xs, o.op = .call c ∧ c.callee = .value x ∧ cx x = some y ∧ cxs c.args.toList = some xs ∧ k = .callV y xs) ∨
    (∃ c f xs d, o.op = .call c ∧ c.callee = .value (.func f) ∧ cxs c.args.toList = some xs ∧ k = .pureC f xs ∧ hv d = true) := by
  unfold compK at h
  split at h
  · rename_i c hop
    split at h
    · rename_i f hc
      split at h
      · rename_i hd
        unfold compPure at h
        split at h
        · rename_i xs h2
          cases h
          obtain ⟨hd, _⟩ := hd
          obtain ⟨d, _, hd⟩ := Option.map_eq_some_iff.1 hd
          exact .inr (.inr (.inr ⟨c, f, xs, d, hop, hc, h2, rfl, hd⟩))
        · cases h
      unfold compCall at h
      split at h
      · rename_i fn xs h1 h2
        split at h
        · rename_i h3
          cases h
          exact .inr (.inl ⟨c, f, xs, fn, hop, hc, h2, rfl, h1, h3.1, h3.2⟩)
        · cases h
      · cases h
    · rename_i x _ hc
      unfold compCallV at h
      split at h
      · rename_i y xs h1 h2
        cases h
        exact .inr (.inr (.inl ⟨c, x, y, xs, hop, hc, h1, h2, rfl⟩))
      · cases h
    · exact .inl (notCall_spec h)
  · exact .inl (notCall_spec h)

theorem run_callFunc {f : FuncId} {fn : Func} {args : Array Value} {w : World} (h1 : P.funcs[f]? = some fn) (h2 : fn.body.isSome = true) (h3 : (fn.name == "runtime.NumGoroutine") = false) : (callFunc f args).run P w = .ok (.enter f args) w := by
  have h4 : fn.body.isNone = false := by cases hb : fn.body <;> simp_all
  simp only [callFunc, Sem.run_bind, run_program, Result.andThen_ok, h1, h3, h4, Bool.false_eq_true, if_false, Sem.run_pure]

theorem drawn_wr {H : Hp} {f : Nat} {vs : List Value} (hm : ∀ id, m.wr id = true → B ≤ id) (hB : B ≤ H.length) : ∀ id, (m.drawn E.pw H f vs).wr id = true → B ≤ id := fun id h => by
  simp only [Md.drawn, Bool.or_eq_true, decide_eq_true_eq, Bool.and_eq_true] at h
  rcases h with h | ⟨⟨_, h⟩, _⟩
  · omega
  · exact hm id h

theorem guard_wanted {J : Inj} {s : St} {a : Act} {w : World} (R : Rel B N nt J s a w) {ops : Array Oper} {o : Oper} {c : CO} {b : Bool} (hg : guardOf ops o = some c.g) (hon : c.on s.ρ = some b) : Region.wanted o (yielded ops a.tmps) = b := by
  unfold guardOf at hg
  unfold Region.wanted
  unfold CO.on at hon
  split at hg
  · rename_i h0
    have hg' : c.g = none := by simpa using hg.symm
    rw [hg'] at hon
    rw [h0]
    simpa using hon
  · rename_i j want h0
    rw [h0]
    split at hg
    · rename_i p hp
      split at hg
      · rename_i t ht
        have hg' : c.g = some (t, want) := by simpa using hg.symm
        rw [hg'] at hon
        dsimp only at hon
        obtain ⟨own, ho⟩ := R.fr
        have hf := ho.ok t
        unfold FOk at hf
        have hy : ∀ v, a.tmps.getD t undef = v → v ≠ undef → a.tmps[t]? = some v := fun v hv hne => by
          rw [Array.getD_eq_getD_getElem?] at hv
          cases hq : a.tmps[t]? with
          | none => rw [hq] at hv; exact absurd hv.symm hne
          | some u => rw [hq] at hv; simp at hv; rw [hv]
        split at hon
        · rename_i cb hρ
          rw [hρ] at hf
          dsimp only at hf
          have h1 := hy _ hf.bool_inv (by simp [undef])
          cases hon
          simp only [yielded, hp, Option.bind_some, ht, h1]
          cases cb <;> cases want <;> rfl
        · rename_i vs hρ
          rw [hρ] at hf
          dsimp only at hf
          cases hon
          generalize hq : a.tmps.getD t undef = q at hf
          cases hf with
          | tup _ ds _ _ =>
            have hne : ∀ b, a.tmps[t]? ≠ some (.bool b) := fun b hb => by
              rw [Array.getD_eq_getD_getElem?, hb] at hq
              simp at hq
            simp only [yielded, hp, Option.bind_some, ht]
            cases hq2 : a.tmps[t]? with
            | none => rfl
            | some u =>
              cases u with
              | bool b => exact absurd hq2 (hne b)
              | _ => rfl
        · cases hon
      · cases hg
    · cases hg

theorem compO_spec {ops : Array Oper} {draw : Bool} {pre : List (List Nat)} {i : Nat} {o : Oper} {c : CO} (h : compO P hv nt ops draw pre i o = some c) :
    compK P hv o.dst o = some c.k ∧ guardOf ops o = some c.g ∧ c.dst = o.dst ∧ c.ix = i ∧ c.pre = (if draw = true then pre.getD i [] else []) ∧ (∀ d, o.dst = some d → d < nt) ∧ (draw = true → ∀ e ∈ o.after, edgeOk e = true → e.on < i) := by
  unfold compO at h
  split at h
  · rename_i k g h1 h2
    split at h
    · rename_i h3
      cases h
      refine ⟨h1, h2, rfl, rfl, rfl, fun d hd => ?_, fun hdr e he hok => ?_⟩
      · have := h3.2
        rw [hd] at this
        simpa [dstOk] using this
      · have := List.all_eq_true.1 (h3.1 hdr) e (by simpa using he)
        simpa [hok] using this
    · cases h
  · cases h

/-- One operation, calls too. -/
theorem stepO_sim {ops : Array Oper} {draw : Bool} {pre : List (List Nat)} {i : Nat} {o : Oper} {c : CO} (hc : compO P hv nt ops draw pre i o = some c) (hpu : PureSound P ∨ ∀ d, hv d = false) (hev : SoundEv P B ev) (hm : ∀ id, m.wr id = true → B ≤ id)
    {J : Inj} {s s' : St} {a : Act} {w : World} (hB : B ≤ s.H.length) (R : Rel B N nt J s a w) (h : stepO E m draw ev s c = some s') {K : Act → World → Prop} {Q : Exit → Act → World → Prop}
    (hK : ∀ J' a' w', Tr B N J s.H w J' s'.H w' → Rel B N nt J' s' a' w' → K a' w') :
    if Region.wanted o (yielded ops a.tmps) then o.wp P a w K Q else K (a.put o.dst undef) w := by
  obtain ⟨c1, c2, c3, c4, c5, c6, c7⟩ := compO_spec hc
  unfold stepO at h
  split at h
  · rename_i hon
    rw [guard_wanted R c2 hon]
    simp only [if_true]
    split at h
    · rename_i f s1 hs
      cases h
      rw [c3] at hK
      unfold stepC at hs
      rcases compK_cases c1 with ⟨k1, k2⟩ | ⟨cl, g, xs, fn, hop, hcal, hxs, hk, hfn, hbd, hnm⟩ | ⟨cl, x, y, xs, hop, hcal, hx, hxs, hk⟩ | ⟨cl, g, xs, dd, hop, hcal, hxs, hk, hdd⟩
      · rw [callee_isCall k2] at hs
        obtain ⟨res, v, w', J', r1, r2, r3, r4⟩ := simK hm k1 R hB c6 hs
        unfold Oper.wp
        rw [r1]
        rcases r2 with rfl | ⟨rfl, rfl⟩
        · exact hK J' _ _ r3 r4
        · exact hK J' _ _ r3 r4
      · rw [hk] at hs
        cases hcs : callee s (.call g xs) with
        | none => rw [hcs] at hs; simp [stepK] at hs
        | some p =>
          obtain ⟨g', vs⟩ := p
          have hcs' := hcs
          simp only [callee] at hcs
          split at hcs
          · rename_i vs' hvs
            cases hcs
            rw [hcs'] at hs
            dsimp only at hs
            cases hq : ev (if draw = true then m.drawn E.pw s.H g vs else m) g vs s.H with
            | none => rw [hq] at hs; cases hs
            | some q =>
              obtain ⟨r, H⟩ := q
              rw [hq] at hs
              cases hs
              obtain ⟨_, hcall⟩ := hev _ _ _ _ _ _ hq (by cases draw with | false => exact hm | true => exact drawn_wr hm hB) hB
              have hargs := opxs R hxs hvs
              unfold Oper.wp
              have hrun : (execOp a.eval o).run P w = .ok (.enter g (cl.args.map a.eval)) w := by
                simp only [execOp, hop, resolve, hcal, Sem.run_bind, Act.eval, Deferred.ofValue, Sem.run_pure, Result.andThen_ok, invoke]
                rw [run_callFunc hfn hbd hnm]
                simp
              rw [hrun, Oper.upon_enter]
              refine (hcall J w (cl.args.map a.eval) R.wr (by simpa using hargs)).mono fun e w' ⟨v, J', he, t1, t2, t3⟩ => ?_
              subst he
              have R1 := R.move t1 t2
              exact hK J' _ _ (t1.mono R.hN) (R1.put_val (s := { s with H := H }) c6 t3)
          · cases hcs
      · rw [hk] at hs
        cases hcs : callee s (.callV y xs) with
        | none => rw [hcs] at hs; simp [stepK] at hs
        | some p =>
          obtain ⟨g', vs⟩ := p
          have hcs' := hcs
          simp only [callee] at hcs
          split at hcs
          · rename_i g first caps vs' hvx hvs
            split at hcs
            · rename_i hfz
              cases hcs
              rw [hcs'] at hs
              dsimp only at hs
              cases hq : ev (if draw = true then m.drawn E.pw s.H g' (vs' ++ caps.toList) else m) g' (vs' ++ caps.toList) s.H with
              | none => rw [hq] at hs; cases hs
              | some q =>
                obtain ⟨r, H⟩ := q
                rw [hq] at hs
                cases hs
                obtain ⟨⟨fn, hfn, hbd, hnm⟩, hcall⟩ := hev _ _ _ _ _ _ hq (by cases draw with | false => exact hm | true => exact drawn_wr hm hB) hB
                have hargs := opxs R hxs hvs
                have hr := opx R hx hvx
                generalize hv1 : a.eval x = cv at hr
                cases hr with
                | fn _ _ ds hsz hh =>
                  unfold Oper.wp
                  have hrun : (execOp a.eval o).run P w = .ok (.enter g' (cl.args.map a.eval ++ ds)) w := by
                    simp only [execOp, hop, resolve, hcal, Sem.run_bind, hv1, Deferred.ofValue, Sem.run_pure, Result.andThen_ok, invoke]
                    rw [run_callFunc hfn hbd hnm]
                    simp
                  rw [hrun, Oper.upon_enter]
                  have hl : LRel J s.H (vs' ++ caps.toList) (cl.args.map a.eval ++ ds).toList := by
                    rw [Array.toList_append]
                    refine LRel.append (by simpa using hargs) ⟨by simpa using hsz, fun i x y hx hy => hh i x y (by simpa using hx) (by simpa using hy)⟩
                  refine (hcall J w _ R.wr hl).mono fun e w' ⟨v, J', he, t1, t2, t3⟩ => ?_
                  subst he
                  have R1 := R.move t1 t2
                  exact hK J' _ _ (t1.mono R.hN) (R1.put_val (s := { s with H := H }) c6 t3)
            · cases hcs
          · cases hcs
      · rw [hk] at hs
        have hps : PureSound P := by
          rcases hpu with h | h
          · exact h
          · rw [h dd] at hdd; cases hdd
        simp only [callee, stepK, pureK] at hs
        split at hs
        · rename_i vs hvs
          split at hs
          · rename_i r hr
            simp only [St.val] at hs
            cases hs
            obtain ⟨kk, bb, rfl, rfl⟩ := pureOf_inv hr
            obtain ⟨⟨fn, hfn, hbd, hnm⟩, hcall⟩ := hps g kk _ hr
            have hargs := opxs R hxs hvs
            have hargs2 : cl.args.map a.eval = #[.int .i64 kk] := by
              have h1 : (cl.args.toList.map a.eval).length = 1 := hargs.1.symm
              have h2 := hargs.2 0 (.int .i64 kk) ((cl.args.toList.map a.eval)[0]'(by omega)) rfl (List.getElem?_eq_getElem (by omega))
              have h3 := h2.int_inv
              apply Array.toList_inj.1
              rw [Array.toList_map]
              refine List.ext_getElem? fun i => ?_
              cases i with
              | zero => rw [List.getElem?_eq_getElem (by omega), h3]; rfl
              | succ i => rw [List.getElem?_eq_none (by omega)]; rfl
            unfold Oper.wp
            have hrun : (execOp a.eval o).run P w = .ok (.enter g (cl.args.map a.eval)) w := by
              simp only [execOp, hop, resolve, hcal, Sem.run_bind, Act.eval, Deferred.ofValue, Sem.run_pure, Result.andThen_ok, invoke]
              rw [run_callFunc hfn hbd hnm]
              simp
            rw [hrun, Oper.upon_enter, hargs2]
            refine (hcall w).mono fun e w' ⟨he, hb⟩ => ?_
            subst he
            have t1 := Tr.below (B := B) (J := J) (H := s.H) hb
            have R1 := R.move t1 (R.wr.below hb)
            exact hK J _ _ (t1.mono R.hN) (R1.put_val (s := { s with H := s.H }) c6 (.str _))
          · cases hs
        · cases hs
    · cases h
  · rename_i hon
    rw [guard_wanted R c2 hon]
    cases h
    rw [c3] at hK
    exact hK J _ _ (.refl _ _ _ _ _) (R.put_val c6 (.tup #[] #[] rfl fun i x y hx => by simp at hx))
  · cases h

theorem compOs_get {ops : Array Oper} {draw : Bool} {pre : List (List Nat)} : ∀ {os : List Oper} {i : Nat} {cs : List CO}, compOs P hv nt ops draw pre i os = some cs → cs.length = os.length ∧
    ∀ (j : Nat) (o : Oper), os[j]? = some o → ∃ c, cs[j]? = some c ∧ compO P hv nt ops draw pre (i + j) o = some c
  | [], i, cs, h => by simp only [compOs] at h; cases h; exact ⟨rfl, fun j o ho => by simp at ho⟩
  | o :: os, i, cs, h => by
    simp only [compOs] at h
    split at h
    · rename_i c cs' h1 h2
      cases h
      obtain ⟨k1, k2⟩ := compOs_get h2
      refine ⟨by simp [k1], fun j o' ho => ?_⟩
      cases j with
      | zero => simp at ho; subst ho; exact ⟨c, rfl, h1⟩
      | succ j =>
        obtain ⟨c', g1, g2⟩ := k2 j o' (by simpa using ho)
        exact ⟨c', by simpa using g1, by rw [show i + (j + 1) = i + 1 + j by omega]; exact g2⟩
    · cases h

/-- A region in its own order. -/
theorem region_sim {ops : Array Oper} {pre : List (List Nat)} {Q : Exit → Act → World → Prop} {cs : List CO} (hcs : compOs P hv nt ops false pre 0 ops.toList = some cs) (hpu : PureSound P ∨ ∀ d, hv d = false) (hev : SoundEv P B ev) (hkp : EvKp ev) (hm : ∀ id, m.wr id = true → B ≤ id) :
    ∀ (n j : Nat) {J : Inj} {s t : St} {a : Act} {w : World}, j + n = ops.size → B ≤ s.H.length → Rel B N nt J s a w → runR E m false ev (cs.drop j) s = some t → (∀ J' a' w', Tr B N J s.H w J' t.H w' → Rel B N nt J' t a' w' → Q .normal a' w') →
      wpOps P ops Q (List.range' j n) a w := by
  obtain ⟨l1, l2⟩ := compOs_get hcs
  intro n
  induction n with
  | zero =>
    intro j J s t a w hj hB R h hQ
    rw [List.drop_eq_nil_of_le (by simp at l1; omega)] at h
    simp only [runR] at h; cases h
    simp only [List.range', wpOps]
    exact hQ J a w (.refl _ _ _ _ _) R
  | succ n ih =>
    intro j J s t a w hj hB R h hQ
    have hjlt : j < ops.size := by omega
    have ho : ops[j]? = some ops[j] := Array.getElem?_eq_getElem hjlt
    obtain ⟨c, hc1, hc2⟩ := l2 j ops[j] (by simpa using ho)
    rw [Nat.zero_add] at hc2
    have hd : cs.drop j = c :: cs.drop (j + 1) := by
      have := List.getElem?_eq_some_iff.1 hc1
      obtain ⟨hlt, he⟩ := this
      rw [List.drop_eq_getElem_cons hlt, he]
    rw [hd] at h
    obtain ⟨s1, h1, h2⟩ := runR_cons (s' := s) h
    rw [List.range'_succ]
    simp only [wpOps, ho]
    have := stepO_sim hc2 hpu hev hm hB R h1 (K := wpOps P ops Q (List.range' (j + 1) n)) (Q := Q) fun J' a' w' t1 R1 => ih (j + 1) (by omega) (Nat.le_trans hB (stepO_kp hkp h1).len) R1 h2 fun J'' a'' w'' t2 R2 => hQ J'' a'' w'' (t1.trans t2) R2
    split
    · rename_i hw; rw [if_pos hw] at this; exact .inl this
    · rename_i hw; rw [if_neg hw] at this; exact this

end
end Go.Proofs.YtglboiahgpfjdaaGreat.Ev

/- What the small machine answers, Go answers: regions with an open order, code, functions. -/
namespace Go.Proofs.YtglboiahgpfjdaaGreat.Ev
set_option linter.all false
open Go

section
variable {P : Program} {B N nt : Nat} {E : Env} {m : Md} {ev : Evf} {hv : Nat → Bool}

theorem edgeOk_binds (e : Edge) : edgeOk e = Region.binds .any e := by
  unfold edgeOk Region.binds
  cases e.ground <;> rfl

theorem pres_acc : ∀ (os : List Oper) (acc : List (List Nat)), ∃ r, pres os acc = acc ++ r
  | [], acc => ⟨[], by simp [pres]⟩
  | o :: os, acc => by
    obtain ⟨r, hr⟩ := pres_acc os (acc ++ [((o.after.toList.filter edgeOk).flatMap fun e => e.on :: acc.getD e.on []).eraseDups])
    exact ⟨_, by rw [pres, hr, List.append_assoc]⟩

theorem mem_eraseDups' {l : List Nat} {x : Nat} (h : x ∈ l.eraseDups) : x ∈ l := by simpa using h

theorem pres_spec : ∀ (os : List Oper) (acc : List (List Nat)) (j : Nat) (o : Oper), os[j]? = some o → ∀ p ∈ (pres os acc).getD (acc.length + j) [], ∃ e ∈ o.after, edgeOk e = true ∧ (p = e.on ∨ p ∈ (pres os acc).getD e.on [])
  | [], acc, j, o, h, p, hp => by simp at h
  | o :: os, acc, 0, o', h, p, hp => by
    simp at h; subst h
    obtain ⟨r, hr⟩ := pres_acc os (acc ++ [((o.after.toList.filter edgeOk).flatMap fun e => e.on :: acc.getD e.on []).eraseDups])
    rw [pres, hr] at hp ⊢
    have h1 : (acc ++ [((o.after.toList.filter edgeOk).flatMap fun e => e.on :: acc.getD e.on []).eraseDups] ++ r).getD (acc.length + 0) [] = ((o.after.toList.filter edgeOk).flatMap fun e => e.on :: acc.getD e.on []).eraseDups := by
      rw [List.append_assoc, List.getD_eq_getElem?_getD, List.getElem?_append_right (by omega)]
      simp
    rw [h1] at hp
    obtain ⟨e, he, hpe⟩ := List.mem_flatMap.1 (mem_eraseDups' hp)
    obtain ⟨he1, he2⟩ := List.mem_filter.1 he
    refine ⟨e, by simpa using he1, he2, ?_⟩
    rcases List.mem_cons.1 hpe with h2 | h2
    · exact .inl h2
    · right
      rw [List.append_assoc, List.getD_eq_getElem?_getD]
      rw [List.getD_eq_getElem?_getD] at h2
      have hlt : e.on < acc.length := by
        rcases Nat.lt_or_ge e.on acc.length with h3 | h3
        · exact h3
        · rw [List.getElem?_eq_none h3] at h2; simp at h2
      rw [List.getElem?_append_left hlt]
      exact h2
  | o :: os, acc, j + 1, o', h, p, hp => by
    rw [pres] at hp ⊢
    have := pres_spec os (acc ++ [((o.after.toList.filter edgeOk).flatMap fun e => e.on :: acc.getD e.on []).eraseDups]) j o' (by simpa using h) p (by
      rw [List.length_append, List.length_singleton, show acc.length + 1 + j = acc.length + (j + 1) by omega]
      exact hp)
    exact this

def left (cs : List CO) (listed : Array Bool) : List CO := cs.filter fun c => !listed.getD c.ix true

theorem getD_set (l : Array Bool) (i j : Nat) (hi : i < l.size) : (l.setIfInBounds i true).getD j true = if j = i then true else l.getD j true := by
  simp only [Array.getD_eq_getD_getElem?]
  by_cases h : j = i
  · subst h; simp [hi]
  · rw [Array.getElem?_setIfInBounds_ne (Ne.symm h), if_neg h]

theorem getD_both {l : Array Bool} {j : Nat} (hj : j < l.size) : l.getD j false = l.getD j true := by simp [Array.getD, hj]

theorem draw_sim {ops : Array Oper} {Q : Exit → Act → World → Prop} {cs : List CO} (hcs : compOs P hv nt ops true (pres ops.toList []) 0 ops.toList = some cs) (hpu : PureSound P ∨ ∀ d, hv d = false) (hev : SoundEv P B ev) (hkp : EvKp ev) (hm : ∀ id, m.wr id = true → B ≤ id) :
    ∀ (fuel : Nat) (listed : Array Bool) {J : Inj} {s t : St} {a : Act} {w : World}, listed.size = ops.size → (∀ c ∈ cs, listed.getD c.ix true = true → ∀ p ∈ c.pre, listed.getD p true = true) → (left cs listed).length ≤ fuel →
      B ≤ s.H.length → Rel B N nt J s a w → runR E m true ev (left cs listed) s = some t → allApart (infR E m ev (left cs listed) s) = true →
      (∀ J' a' w', Tr B N J s.H w J' t.H w' → Rel B N nt J' t a' w' → Q .normal a' w') → wpAny P .any ops Q fuel listed a w := by
  obtain ⟨l1, l2⟩ := compOs_get hcs
  have hlen : cs.length = ops.size := by simpa using l1
  have hix : ∀ (j : Nat) (c : CO), cs[j]? = some c → c.ix = j := fun j c hc => by
    have hj := (List.getElem?_eq_some_iff.1 hc).1
    obtain ⟨c', g1, g2⟩ := l2 j ops[j] (by simp)
    rw [hc] at g1; cases g1
    have := (compO_spec g2).2.2.2.1
    omega
  have hop : ∀ (j : Nat) (o : Oper), ops[j]? = some o → ∃ c ∈ cs, c.ix = j ∧ compO P hv nt ops true (pres ops.toList []) j o = some c := fun j o ho => by
    obtain ⟨c, g1, g2⟩ := l2 j o (by simpa using ho)
    rw [Nat.zero_add] at g2
    exact ⟨c, List.mem_of_getElem? g1, hix j c g1, g2⟩
  have hback : ∀ c ∈ cs, ∃ o, ops[c.ix]? = some o ∧ compO P hv nt ops true (pres ops.toList []) c.ix o = some c := fun c hc => by
    obtain ⟨j, hj⟩ := List.getElem?_of_mem hc
    have hjl := (List.getElem?_eq_some_iff.1 hj).1
    obtain ⟨c', g1, g2⟩ := l2 j ops[j] (by simp)
    rw [hj] at g1; cases g1
    rw [Nat.zero_add] at g2
    rw [hix j c hj]
    exact ⟨_, Array.getElem?_eq_getElem (by omega), g2⟩
  have hsort : cs.Pairwise fun x y => x.ix < y.ix := by
    rw [List.pairwise_iff_getElem]
    intro i j hi hj hij
    rw [hix i _ (List.getElem?_eq_getElem hi), hix j _ (List.getElem?_eq_getElem hj)]
    exact hij
  have hon : ∀ {c : CO} {o : Oper} {j : Nat}, compO P hv nt ops true (pres ops.toList []) j o = some c → ∀ e ∈ o.after, Region.binds .any e = true → e.on < j := fun {c o j} h e he hb => by
    exact (compO_spec h).2.2.2.2.2.2 rfl e he (by rw [edgeOk_binds]; exact hb)
  intro fuel
  induction fuel with
  | zero =>
    intro listed J s t a w hls hcl hfu hB R h hap hQ
    have h0 : left cs listed = [] := List.eq_nil_of_length_eq_zero (by omega)
    rw [h0] at h
    simp only [runR] at h; cases h
    refine ⟨?_, hQ J a w (.refl _ _ _ _ _) R⟩
    cases hr : Region.ready .any ops listed with
    | nil => rfl
    | cons i rs =>
      exfalso
      obtain ⟨g1, o, g2, _⟩ := mem_ready.1 (hr ▸ List.mem_cons_self : i ∈ Region.ready .any ops listed)
      obtain ⟨c, c1, c2, _⟩ := hop i o g2
      have : c ∈ left cs listed := List.mem_filter.2 ⟨c1, by rw [c2, g1]; rfl⟩
      rw [h0] at this
      cases this
  | succ fuel ih =>
    intro listed J s t a w hls hcl hfu hB R h hap hQ
    refine ⟨fun hr => ?_, fun i hi => ?_⟩
    · cases hl : left cs listed with
      | nil =>
        rw [hl] at h
        simp only [runR] at h; cases h
        exact hQ J a w (.refl _ _ _ _ _) R
      | cons c rest =>
        exfalso
        have hcm : c ∈ left cs listed := by rw [hl]; exact List.mem_cons_self
        obtain ⟨c1, c2⟩ := List.mem_filter.1 hcm
        obtain ⟨o, o1, o2⟩ := hback c c1
        have hmem : c.ix ∈ Region.ready .any ops listed := by
          rw [mem_ready]
          refine ⟨by simpa using c2, o, o1, fun e he hb => ?_⟩
          have hlt := hon o2 e he hb
          have hcx : c.ix < ops.size := (Array.getElem?_eq_some_iff.1 o1).1
          rw [getD_both (by omega)]
          cases hg : listed.getD e.on true with
          | true => rfl
          | false =>
            exfalso
            obtain ⟨c', d1, d2, _⟩ := hop e.on ops[e.on] (Array.getElem?_eq_getElem (by omega))
            have hm' : c' ∈ left cs listed := List.mem_filter.2 ⟨d1, by rw [d2, hg]; rfl⟩
            have hps : (left cs listed).Pairwise fun x y => x.ix < y.ix := hsort.filter _
            rw [hl] at hm' hps
            rcases List.mem_cons.1 hm' with h3 | h3
            · rw [h3] at d2; omega
            · have := (List.pairwise_cons.1 hps).1 c' h3
              omega
        rw [hr] at hmem
        cases hmem
    · obtain ⟨g1, o, g2, g3⟩ := mem_ready.1 hi
      have hisz : i < ops.size := (Array.getElem?_eq_some_iff.1 g2).1
      obtain ⟨c, c1, c2, c3⟩ := hop i o g2
      have hcm : c ∈ left cs listed := List.mem_filter.2 ⟨c1, by rw [c2, g1]; rfl⟩
      obtain ⟨A, B', hAB⟩ := List.append_of_mem hcm
      have hps : (left cs listed).Pairwise fun x y => x.ix < y.ix := hsort.filter _
      have hpre : ∀ p ∈ c.pre, listed.getD p true = true := fun p hp => by
        rw [(compO_spec c3).2.2.2.2.1, if_pos rfl] at hp
        obtain ⟨e, he, hok, hpe⟩ := pres_spec ops.toList [] i o (by simpa using g2) p (by simpa using hp)
        have hb : Region.binds .any e = true := by rw [← edgeOk_binds]; exact hok
        have hlt := hon c3 e he hb
        have hle : listed.getD e.on true = true := by rw [← getD_both (by omega)]; exact g3 e he hb
        rcases hpe with rfl | hpe
        · exact hle
        · obtain ⟨c', d1, d2, d3⟩ := hop e.on ops[e.on] (Array.getElem?_eq_getElem (by omega))
          refine hcl c' d1 (by rw [d2]; exact hle) p ?_
          rw [(compO_spec d3).2.2.2.2.1, if_pos rfl]
          exact hpe
      have hmemA : ∀ x ∈ A, x ∈ left cs listed := fun x hx => by rw [hAB]; exact List.mem_append_left _ hx
      rw [hAB] at h hap hps
      obtain ⟨s1, LA, LB, f1, f2, f3, f4⟩ := front hkp h hap fun x hx => by
        cases hq : c.pre.contains x.ix with
        | false => rfl
        | true =>
          have h1 := hpre x.ix (by simpa using hq)
          have h2 := (List.mem_filter.1 (hmemA x hx)).2
          rw [h1] at h2
          cases h2
      have hne : (∀ x ∈ A, x.ix ≠ i) ∧ ∀ x ∈ B', x.ix ≠ i := by
        rw [List.pairwise_append] at hps
        obtain ⟨_, q2, q3⟩ := hps
        refine ⟨fun x hx e => ?_, fun x hx e => ?_⟩
        · have := q3 x hx c List.mem_cons_self
          omega
        · have := (List.pairwise_cons.1 q2).1 x hx
          omega
      have hleft : left cs (listed.setIfInBounds i true) = A ++ B' := by
        have e1 : left cs (listed.setIfInBounds i true) = (left cs listed).filter fun x => decide (x.ix ≠ i) := by
          unfold left
          rw [List.filter_filter]
          congr 1
          funext x
          rw [getD_set _ _ _ (by omega)]
          by_cases hx : x.ix = i <;> simp [hx]
        rw [e1, hAB, List.filter_append, List.filter_cons]
        rw [if_neg (by simp [c2])]
        rw [List.filter_eq_self.2 (fun x hx => by simpa using hne.1 x hx), List.filter_eq_self.2 (fun x hx => by simpa using hne.2 x hx)]
      have hsim := stepO_sim c3 hpu hev hm hB R f1 (K := wpAny P .any ops Q fuel (listed.setIfInBounds i true)) (Q := Q) fun J' a' w' t1 R1 =>
        ih (listed.setIfInBounds i true) (by simpa using hls) (fun c' hc' hl' p hp => by
            have hpl : p < ops.size ∨ listed.getD p true = true := by
              by_cases hpp : p < ops.size
              · exact .inl hpp
              · right
                simp only [Array.getD]
                rw [dif_neg (by omega)]
            rw [getD_set _ _ _ (by omega)] at hl' ⊢
            split
            · rfl
            · by_cases hci : c'.ix = i
              · have : c' = c := by
                  obtain ⟨o', o1, o2⟩ := hback c' hc'
                  rw [hci, g2] at o1
                  cases o1
                  rw [hci, c3] at o2
                  cases o2
                  rfl
                subst this
                exact hpre p hp
              · rw [if_neg hci] at hl'
                exact hcl c' hc' hl' p hp)
          (by rw [hleft]; rw [hAB] at hfu; simp at hfu ⊢; omega) (Nat.le_trans hB (stepO_kp hkp f1).len) R1 (by rw [hleft]; exact f2) (by rw [hleft, f4]; rw [f3] at hap; exact allApart_drop hap)
          fun J'' a'' w'' t2 R2 => hQ J'' a'' w'' (t1.trans t2) R2
      unfold wpOp
      rw [g2]
      dsimp only
      split
      · rename_i hw; rw [if_pos hw] at hsim; exact .inl hsim
      · rename_i hw; rw [if_neg hw] at hsim; exact hsim

def EvLe (ev ev' : Evf) : Prop := ∀ m f vs H r, ev m f vs H = some r → ev' m f vs H = some r

theorem stepC_mono {ev' : Evf} (hle : EvLe ev ev') {draw : Bool} {s : St} {k : CK} {r : FV × St} (h : stepC E m draw ev s k = some r) : stepC E m draw ev' s k = some r := by
  unfold stepC at h ⊢
  cases hc : callee s k with
  | none => rw [hc] at h; exact h
  | some p =>
    obtain ⟨f, vs⟩ := p
    rw [hc] at h
    dsimp only at h ⊢
    cases hq : ev (if draw = true then m.drawn E.pw s.H f vs else m) f vs s.H with
    | none => rw [hq] at h; cases h
    | some q => rw [hq] at h; rw [hle _ _ _ _ _ hq]; exact h

theorem stepO_mono {ev' : Evf} (hle : EvLe ev ev') {draw : Bool} {s : St} {o : CO} {r : St} (h : stepO E m draw ev s o = some r) : stepO E m draw ev' s o = some r := by
  unfold stepO at h ⊢
  split at h
  · cases hq : stepC E m draw ev s o.k with
    | none => rw [hq] at h; cases h
    | some q => rw [hq] at h; rw [stepC_mono hle hq]; exact h
  · exact h
  · cases h

theorem runR_mono {ev' : Evf} (hle : EvLe ev ev') {draw : Bool} : ∀ {os : List CO} {s r : St}, runR E m draw ev os s = some r → runR E m draw ev' os s = some r ∧ (draw = true → infR E m ev' os s = infR E m ev os s)
  | [], s, r, h => ⟨h, fun _ => rfl⟩
  | o :: os, s, r, h => by
    obtain ⟨s1, h1, h2⟩ := runR_cons (s' := s) h
    obtain ⟨i1, i2⟩ := runR_mono hle h2
    have h3 := stepO_mono hle h1
    refine ⟨by simp only [runR, h3]; exact i1, fun hd => ?_⟩
    subst hd
    simp only [infR, h1, h3, i2 rfl]

theorem ev_succ : ∀ (k : Nat), EvLe (evF E k) (evF E (k + 1)) ∧ ∀ m c s r, evC E k m c s = some r → evC E (k + 1) m c s = some r
  | 0 => ⟨fun m f vs H r h => by simp [evF] at h, fun m c s r h => by simp [evC] at h⟩
  | k + 1 => by
    obtain ⟨i1, i2⟩ := ev_succ k
    refine ⟨fun m f vs H r h => ?_, fun m c s r h => ?_⟩
    · rw [evF] at h ⊢
      split at h
      · exact h
      · split at h
        · cases h
        · rename_i cf _
          split at h
          · rename_i hl
            rw [if_pos hl]
            cases hq : evC E k { m with nr := m.nr || E.tr f } cf.body { ρ := ini vs, gn := 0, H := H } with
            | none => rw [hq] at h; cases h
            | some q => rw [hq] at h; rw [i2 _ _ _ _ hq]; exact h
          · cases h
    · cases c with
      | skip => rw [evC] at h ⊢; exact h
      | exit id => rw [evC] at h ⊢; exact h
      | ret => rw [evC] at h ⊢; exact h
      | reg draw ops =>
        rw [evC] at h ⊢
        split at h
        · cases h
        · rename_i hna
          cases hq : runR E m draw (evF E k) ops s with
          | none => rw [hq] at h; cases h
          | some q =>
            obtain ⟨j1, j2⟩ := runR_mono i1 hq
            rw [if_neg (fun hc => hna ⟨hc.1, by rw [← j2 hc.1]; exact hc.2⟩), j1]
            rw [hq] at h
            exact h
      | seq a b =>
        rw [evC] at h ⊢
        cases hq : evC E k m a s with
        | none => rw [hq] at h; cases h
        | some q =>
          obtain ⟨e, s1⟩ := q
          rw [hq] at h
          rw [i2 _ _ _ _ hq]
          cases e with
          | normal => exact i2 _ _ _ _ h
          | exit id => exact h
          | ret => exact h
      | cond c a b =>
        rw [evC] at h ⊢
        split at h
        · exact i2 _ _ _ _ h
        · exact i2 _ _ _ _ h
        · cases h
      | block id c =>
        rw [evC] at h ⊢
        cases hq : evC E k m c s with
        | none => rw [hq] at h; cases h
        | some q => rw [hq] at h; rw [i2 _ _ _ _ hq]; exact h
      | loop c =>
        rw [evC] at h ⊢
        cases hq : evC E k m c s with
        | none => rw [hq] at h; cases h
        | some q =>
          obtain ⟨e, s1⟩ := q
          rw [hq] at h
          rw [i2 _ _ _ _ hq]
          cases e with
          | normal => exact i2 _ _ _ _ h
          | exit id => exact h
          | ret => exact h

theorem evC_mono {k : Nat} : ∀ (d : Nat) {c : CC} {s : St} {r : Ex × St}, evC E k m c s = some r → evC E (k + d) m c s = some r
  | 0, c, s, r, h => h
  | d + 1, c, s, r, h => (ev_succ (E := E) (k + d)).2 _ _ _ _ (evC_mono d h)

theorem evF_mono {k : Nat} : ∀ (d : Nat) {f : Nat} {vs : List Value} {H : Hp} {r : Value × Hp}, evF E k m f vs H = some r → evF E (k + d) m f vs H = some r
  | 0, f, vs, H, r, h => h
  | d + 1, f, vs, H, r, h => (ev_succ (E := E) (k + d)).1 _ _ _ _ _ (evF_mono d h)

def Ex.to : Ex → Exit
  | .normal => .normal
  | .exit id => .exit id
  | .ret => .ret

theorem cond_val {J : Inj} {s : St} {a : Act} {w : World} (R : Rel B N nt J s a w) {x : Operand} {y : X} {b : Bool} (hx : cx x = some y) (h : exv s.ρ y = some (.bool b)) : a.eval x = .bool b := (opx R hx h).bool_inv

/-- Code goes with code. -/
theorem simC {k : Nat} (hmix : P.follows .mixedOrders = true) (hpu : PureSound P ∨ ∀ d, hv d = false) (hev : ∀ j, j < k → SoundEv P B (evF E j)) (hkp : ∀ j, EvKp (evF E j) ∧ ∀ m c s e s', evC E j m c s = some (e, s') → Kp m s.H s'.H) (hm : ∀ id, m.wr id = true → B ≤ id) :
    ∀ (j : Nat), j ≤ k → ∀ {c : Code} {cc : CC} {J : Inj} {s s' : St} {a : Act} {w : World} {e : Ex} {Q : Exit → Act → World → Prop}, compC P hv nt c = some cc → evC E j m cc s = some (e, s') → B ≤ s.H.length → Rel B N nt J s a w →
      (∀ J' a' w', Tr B N J s.H w J' s'.H w' → Rel B N nt J' s' a' w' → Q e.to a' w') → c.wp P Q a w := by
  intro j
  induction j with
  | zero => intro _ c cc J s s' a w e Q hc h; simp [evC] at h
  | succ j ih =>
    intro hj c cc J s s' a w e Q hc h hB R hQ
    have ihj := fun {c : Code} {cc : CC} {J : Inj} {s s' : St} {a : Act} {w : World} {e : Ex} {Q : Exit → Act → World → Prop} => ih (by omega) (c := c) (cc := cc) (J := J) (s := s) (s' := s') (a := a) (w := w) (e := e) (Q := Q)
    cases c with
    | skip =>
      simp only [compC] at hc; cases hc
      simp only [evC] at h; cases h
      exact wp_skip (hQ J a w (.refl _ _ _ _ _) R)
    | exit id =>
      simp only [compC] at hc; cases hc
      simp only [evC] at h; cases h
      exact wp_exit (hQ J a w (.refl _ _ _ _ _) R)
    | ret =>
      simp only [compC] at hc; cases hc
      simp only [evC] at h; cases h
      exact wp_ret (hQ J a w (.refl _ _ _ _ _) R)
    | region id ops draw =>
      simp only [compC] at hc
      split at hc
      · rename_i cs hcs
        cases hc
        simp only [evC] at h
        split at h
        · cases h
        · rename_i hna
          split at h
          · rename_i s1 hs
            cases h
            cases draw with
            | false =>
              refine wp_region ?_
              have := region_sim (N := N) (Q := Q) hcs hpu (hev j (by omega)) (hkp j).1 hm ops.size 0 (by omega) hB R hs hQ
              rw [List.range_eq_range']
              exact this
            | true =>
              refine wp_region_any hmix ?_
              have hap : allApart (infR E m (evF E j) cs s) = true := by
                cases hq : allApart (infR E m (evF E j) cs s) with
                | true => rfl
                | false => exact absurd ⟨rfl, hq⟩ hna
              obtain ⟨l1, l2⟩ := compOs_get hcs
              have hixs : ∀ c ∈ cs, c.ix < ops.size := fun c hcm => by
                obtain ⟨jj, hjj⟩ := List.getElem?_of_mem hcm
                have hlt := (List.getElem?_eq_some_iff.1 hjj).1
                simp at l1
                obtain ⟨c', g1, g2⟩ := l2 jj ops[jj] (by simp)
                rw [hjj] at g1; cases g1
                have := (compO_spec g2).2.2.2.1
                omega
              have hrep : ∀ jj, jj < ops.size → (Array.replicate ops.size false).getD jj true = false := fun jj hjj => by simp [Array.getD, hjj]
              have hleft : left cs (Array.replicate ops.size false) = cs := by
                unfold left
                rw [List.filter_eq_self]
                intro c hcm
                rw [hrep _ (hixs c hcm)]
                rfl
              have R1 := R.drew
              have := draw_sim (N := N) (Q := Q) hcs hpu (hev j (by omega)) (hkp j).1 hm ops.size (Array.replicate ops.size false) (s := s) (t := s') (by simp) (fun c hcm hl => by rw [hrep _ (hixs c hcm)] at hl; cases hl) (by rw [hleft]; simp at l1; omega) hB R1
                (by rw [hleft]; exact hs) (by rw [hleft]; exact hap) fun J' a' w' t1 R2 => hQ J' a' w' (((Tr.drew J s.H w).mono R.hN).trans t1) R2
              exact this
          · cases h
      · cases hc
        simp only [evC, exv, ex] at h
        cases h
    | seq x y =>
      simp only [compC] at hc
      split at hc
      · rename_i cx' cy' h1 h2
        cases hc
        simp only [evC] at h
        refine wp_seq ?_
        cases he : evC E j m cx' s with
        | none => rw [he] at h; cases h
        | some p =>
          obtain ⟨e1, s1⟩ := p
          rw [he] at h
          have hk := (hkp j).2 _ _ _ _ _ he
          refine ihj h1 he hB R fun J' a' w' t1 R1 => ?_
          cases e1 with
          | normal =>
            dsimp only at h
            exact ihj h2 h (Nat.le_trans hB hk.len) R1 fun J'' a'' w'' t2 R2 => hQ J'' a'' w'' (t1.trans t2) R2
          | exit id => cases h; exact hQ J' a' w' t1 R1
          | ret => cases h; exact hQ J' a' w' t1 R1
      · cases hc
    | cond x y z =>
      simp only [compC] at hc
      split at hc
      · rename_i c' y' z' h1 h2 h3
        cases hc
        simp only [evC] at h
        split at h
        · rename_i hb
          exact wp_cond_true (cond_val R h1 hb) (ihj h2 h hB R hQ)
        · rename_i hb
          exact wp_cond_false (cond_val R h1 hb) (ihj h3 h hB R hQ)
        · cases h
      · cases hc
    | block id x =>
      simp only [compC] at hc
      split at hc
      · rename_i x' h1
        cases hc
        simp only [evC] at h
        refine wp_block ?_
        cases he : evC E j m x' s with
        | none => rw [he] at h; cases h
        | some p =>
          obtain ⟨e1, s1⟩ := p
          rw [he] at h
          refine ihj h1 he hB R fun J' a' w' t1 R1 => ?_
          cases e1 with
          | normal => cases h; exact hQ J' a' w' t1 R1
          | exit id' =>
            dsimp only at h
            show (if id' = id then Q .normal a' w' else Q (.exit id') a' w')
            split at h
            · rename_i hid; cases h; rw [if_pos hid]; exact hQ J' a' w' t1 R1
            · rename_i hid; cases h; rw [if_neg hid]; exact hQ J' a' w' t1 R1
          | ret => cases h; exact hQ J' a' w' t1 R1
      · cases hc
    | loop x =>
      simp only [compC] at hc
      split at hc
      · rename_i x' h1
        cases hc
        refine wp_loop_rounds (j + 1) ?_
        have key : ∀ (i : Nat), i ≤ j + 1 → ∀ {J : Inj} {s s' : St} {a : Act} {w : World} {e : Ex}, evC E i m (.loop x') s = some (e, s') → B ≤ s.H.length → Rel B N nt J s a w →
            (∀ J' a' w', Tr B N J s.H w J' s'.H w' → Rel B N nt J' s' a' w' → Q e.to a' w') → Code.rounds P x Q i a w := by
          intro i
          induction i with
          | zero => intro _ J s s' a w e h; simp [evC] at h
          | succ i ihi =>
            intro hi J s s' a w e h hB R hQ
            simp only [evC] at h
            rw [rounds_succ]
            cases he : evC E i m x' s with
            | none => rw [he] at h; cases h
            | some p =>
              obtain ⟨e1, s1⟩ := p
              rw [he] at h
              have hk := (hkp i).2 _ _ _ _ _ he
              have he' : ∃ e1' s1', evC E i m x' s = some (e1', s1') := ⟨e1, s1, he⟩
              have body : ∀ {Q' : Exit → Act → World → Prop}, (∀ J' a' w', Tr B N J s.H w J' s1.H w' → Rel B N nt J' s1 a' w' → Q' e1.to a' w') → x.wp P Q' a w := fun {Q'} hQ' => by
                have hmono : ∀ d, i + d = j → evC E j m x' s = some (e1, s1) := fun d hd => by
                  subst hd
                  exact evC_mono d he
                exact ihj h1 (hmono (j - i) (by omega)) hB R hQ'
              refine body fun J' a' w' t1 R1 => ?_
              cases e1 with
              | normal =>
                dsimp only at h
                exact ihi (by omega) h (Nat.le_trans hB hk.len) R1 fun J'' a'' w'' t2 R2 => hQ J'' a'' w'' (t1.trans t2) R2
              | exit id => cases h; exact hQ J' a' w' t1 R1
              | ret => cases h; exact hQ J' a' w' t1 R1
        exact key (j + 1) (Nat.le_refl _) h hB R hQ
      · cases hc
    | _ => simp [compC] at hc

end
end Go.Proofs.YtglboiahgpfjdaaGreat.Ev

/- What the small machine answers, Go answers: functions. -/
namespace Go.Proofs.YtglboiahgpfjdaaGreat.Ev
set_option linter.all false
open Go

theorem VRel.cut {J J' J'' : Inj} {H H' H'' : Hp} (hh : ∀ id, id < H.length → H''[id]? = H'[id]? ∧ J'' id = J' id) {v c0 : Value} (h : VRel J H v c0) : ∀ {c : Value}, VRel J' H' v c → VRel J'' H'' v c := by
  induction h with
  | int k n => intro c h; cases h; exact .int _ _
  | bool b => intro c h; cases h; exact .bool _
  | str s => intro c h; cases h; exact .str _
  | nptr => intro c h; cases h; exact .nptr
  | nsl => intro c h; cases h; exact .nsl
  | nfn => intro c h; cases h; exact .nfn
  | ptr id off gen o a h hg hv =>
    intro c h2
    have hid := (List.getElem?_eq_some_iff.1 h).1
    cases h2 with
    | ptr _ _ _ o2 a2 g1 g2 g3 => exact .ptr _ _ _ o2 a2 (by rw [(hh id hid).1]; exact g1) g2 fun e => by rw [(hh id hid).2]; exact g3 e
  | sl id off e len cap o a ccap h hg hl hc hv =>
    intro c h2
    have hid := (List.getElem?_eq_some_iff.1 h).1
    cases h2 with
    | sl _ _ _ _ _ o2 a2 cc2 g1 g2 g3 g4 g5 => exact .sl _ _ _ _ _ o2 a2 cc2 (by rw [(hh id hid).1]; exact g1) g2 g3 g4 fun e => by rw [(hh id hid).2]; exact g5 e
  | agg cs ds hs h1 h ih =>
    intro c h2
    cases h2 with
    | agg _ ds2 hs2 h12 h2 =>
      refine .agg cs ds2 hs2 h12 fun i x y hx hy => ?_
      have hi := (Array.getElem?_eq_some_iff.1 hx).1
      exact ih i x (ds[i]'(by omega)) hx (Array.getElem?_eq_getElem _) (h2 i x y hx hy)
  | tup cs ds hs h ih =>
    intro c h2
    cases h2 with
    | tup _ ds2 hs2 h2 =>
      refine .tup cs ds2 hs2 fun i x y hx hy => ?_
      have hi := (Array.getElem?_eq_some_iff.1 hx).1
      exact ih i x (ds[i]'(by omega)) hx (Array.getElem?_eq_getElem _) (h2 i x y hx hy)
  | fn f cs ds hs h ih =>
    intro c h2
    cases h2 with
    | fn _ _ ds2 hs2 h2 =>
      refine .fn f cs ds2 hs2 fun i x y hx hy => ?_
      have hi := (Array.getElem?_eq_some_iff.1 hx).1
      exact ih i x (ds[i]'(by omega)) hx (Array.getElem?_eq_getElem _) (h2 i x y hx hy)

theorem VRel.cells_scal {J J' : Inj} {H H' : Hp} {v c : Value} (h : VRel J H v c) (hs : (vcells v).all Ev.scal = true) : VRel J' H' v c := by
  cases h with
  | agg cs ds hz h1 h =>
    refine .agg cs ds hz h1 fun i x y hx hy => ?_
    have hx2 : Ev.scal x = true := List.all_eq_true.1 hs x (by simpa [vcells] using Array.mem_of_getElem? hx)
    have := (h i x y hx hy).of_scal hx2
    subst this
    exact .scal hx2
  | tup cs ds hz h => simp [vcells, Ev.scal] at hs
  | fn f cs ds hz h => simp [vcells, Ev.scal] at hs
  | ptr id off gen o a h hg hv => simp [vcells, Ev.scal] at hs
  | sl id off e len cap o a ccap h hg hl hc hv => simp [vcells, Ev.scal] at hs
  | int k n => exact .int _ _
  | bool b => exact .bool _
  | str s => exact .str _
  | nptr => exact .nptr
  | nsl => exact .nsl
  | nfn => exact .nfn

theorem VRel.flat {J J' : Inj} {H H' : Hp} {v c : Value} (h : VRel J H v c) (hs : flatScal v = true) : VRel J' H' v c := by
  unfold flatScal at hs
  split at hs
  · exact h.cells_scal (by simpa [vcells] using hs)
  · rename_i vs
    cases h with
    | tup _ ds hz h =>
      refine .tup vs ds hz fun i x y hx hy => (h i x y hx hy).cells_scal ?_
      exact List.all_eq_true.1 hs x (by simpa using Array.mem_of_getElem? hx)
  · have := h.of_scal hs
    subst this
    exact .scal hs

theorem cut_rel {B N : Nat} {J J' : Inj} {H H' : Hp} {w w' : World} {m : Md} (h0 : WRel B J H w) (ht : Tr B N J H w J' H' w') (hw : WRel B J' H' w') (hk : Kp m H H') (hn : m.nr = true) :
    ∃ J'', Tr B N J H w J'' (H'.take H.length) w' ∧ WRel B J'' (H'.take H.length) w' := by
  have hlen := hk.len
  have hget : ∀ id, id < H.length → (H'.take H.length)[id]? = H'[id]? := fun id hid => by rw [List.getElem?_take, if_pos hid]
  refine ⟨fun id => if id < H.length then J' id else none, ⟨fun id o ho => ?_, ht.frame, fun id l' hl => ?_, ht.grow, ht.os, ht.tape, ht.output⟩, ⟨fun id o ho => ?_, fun id id' l l' hne hB hl hl' => ?_, fun id hid => ?_⟩⟩
  · have hid := (List.getElem?_eq_some_iff.1 ho).1
    obtain ⟨o', h1, h2⟩ := ht.keep id o ho
    refine ⟨o', by rw [hget id hid]; exact h1, ?_⟩
    simp only [if_pos hid]
    exact h2
  · split at hl
    · exact ht.img id l' hl
    · cases hl
  · have hid : id < H.length := by
      have := (List.getElem?_eq_some_iff.1 ho).1
      rw [List.length_take] at this
      omega
    rw [hget id hid] at ho
    obtain ⟨l, ds, e, lo, hi, a1, a2, a3, a4, a5, a6⟩ := hw.row id o ho
    refine ⟨l, ds, e, lo, hi, by simp only [if_pos hid]; exact a1, a2, a3, a4, fun i v hv => ?_, a6⟩
    obtain ⟨b1, d, b2, b3⟩ := a5 i v hv
    refine ⟨b1, d, b2, ?_⟩
    obtain ⟨o0, ho0, hmem⟩ := hk.nr hn id o hid ho
    rcases hmem v (List.mem_of_getElem? hv) with hs | hs
    · have := b3.of_scal hs
      subst this
      exact .scal hs
    · obtain ⟨k, hk2⟩ := List.getElem?_of_mem hs
      obtain ⟨_, _, _, _, _, _, _, _, _, c5, _⟩ := h0.row id o0 ho0
      obtain ⟨_, d0, _, r0⟩ := c5 k v hk2
      exact VRel.cut (fun id2 hid2 => ⟨hget id2 hid2, by simp only [if_pos hid2]⟩) r0 b3
  · split at hl
    · split at hl'
      · exact hw.uni id id' l l' hne hB hl hl'
      · cases hl'
    · cases hl
  · have : H.length ≤ id := by
      rw [List.length_take] at hid
      omega
    show (if id < H.length then J' id else none) = none
    rw [if_neg (by omega)]

section
variable {P : Program} {B N nt : Nat} {E : Env} {hv : Nat → Nat → Bool}

theorem ini_rel {J : Inj} {H : Hp} {w : World} {vs : List Value} {cs : Array Value} (hw : WRel B J H w) (hl : LRel J H vs cs.toList) (hn : vs.length ≤ nt) :
    Rel B w.heap.size nt J { ρ := ini vs, gn := 0, H := H } { tmps := cs ++ Array.replicate (nt - cs.size) undef, defers := [] } w := by
  have hsz : vs.length = cs.size := by rw [hl.1, Array.length_toList]
  refine ⟨hw, ⟨fun _ => none, ⟨fun t => ?_, fun _ _ _ h _ => by simp at h, fun _ _ h => by simp at h, fun t g cs' h => ?_, fun t t' g off h => ?_⟩⟩, rfl, by simp; omega, Nat.le_refl _⟩
  · unfold FOk
    dsimp only
    simp only [ini]
    cases hv : vs[t]? with
    | none => trivial
    | some v =>
      have ht := (List.getElem?_eq_some_iff.1 hv).1
      obtain ⟨y, hy, hr⟩ := hl.get hv
      dsimp only
      have : (cs ++ Array.replicate (nt - cs.size) undef).getD t undef = y := by
        rw [Array.getD_eq_getD_getElem?, Array.getElem?_append_left (by omega)]
        rw [Array.getElem?_toList] at hy
        rw [hy]
        rfl
      rw [this]
      exact hr
  · dsimp only at h
    simp only [ini] at h
    split at h <;> cases h
  · dsimp only at h
    simp only [ini] at h
    split at h <;> cases h

def resG (tmps : Array Value) : ResultVar → Sem Value
  | .tmp t => pure (tmps.getD t undef)
  | .cell b t => do loadVar t (← asAddr (tmps.getD b undef))

theorem results_eq (fn : Func) (tmps : Array Value) : results fn tmps = (do
    let vs ← fn.results.mapM (resG tmps)
    pure (if h : vs.size = 1 then vs[0] else .tuple vs) : Sem Value) := by
  unfold results
  have : (fun r : ResultVar => match r with
    | .tmp t => pure (tmps.getD t undef)
    | .cell a t => do loadVar t (← asAddr (tmps.getD a undef)) : ResultVar → Sem Value) = resG tmps := by
    funext r
    cases r <;> rfl
  rw [← this]
  rfl

theorem res_ok {J : Inj} {s : St} {a : Act} {w : World} (R : Rel B N nt J s a w) : ∀ {rs : List ResultVar} {cs : List RV} {vs : List Value}, compR P rs = some cs → resVs s cs = some vs →
    ∃ ws : List Value, (rs.mapM (resG a.tmps)).run P w = .ok ws w ∧ LRel J s.H vs ws
  | [], cs, vs, h1, h2 => by
    simp only [compR] at h1; cases h1
    simp only [resVs] at h2; cases h2
    exact ⟨[], by simp, .nil⟩
  | .tmp t :: rs, cs, vs, h1, h2 => by
    simp only [compR] at h1
    split at h1
    · rename_i cs' hc
      cases h1
      simp only [resVs] at h2
      split at h2
      · rename_i v vs' e1 e2
        cases h2
        obtain ⟨ws, w1, w2⟩ := res_ok R hc e2
        refine ⟨a.tmps.getD t undef :: ws, ?_, .cons (opx R (x := .tmp t) rfl e1) w2⟩
        simp only [List.mapM_cons, Sem.run_bind, resG, Sem.run_pure, Result.andThen_ok, w1]
      · cases h2
    · cases h1
  | .cell b t :: rs, cs, vs, h1, h2 => by
    simp only [compR] at h1
    split at h1
    · rename_i n agg cs' hi hc
      cases h1
      simp only [resVs] at h2
      split at h2
      · rename_i v vs' e1 e2
        cases h2
        obtain ⟨ws, w1, w2⟩ := res_ok R hc e2
        simp only [resV] at e1
        split at e1
        · rename_i v' s1 hl
          cases e1
          unfold loadK at hl
          split at hl
          · rename_i ad ha
            split at hl
            · rename_i os off hr
              obtain ⟨p, v2, fv, hp, hrun, hfv, hs1, hvr⟩ := load_ok (P := P) R hi (fun own ho => adr_ok R ho (x := .tmp b) rfl ha) hr hl
              cases hfv
              refine ⟨v2 :: ws, ?_, .cons hvr w2⟩
              have hp' : a.tmps.getD b undef = .pointer (some p) := hp
              simp only [List.mapM_cons, Sem.run_bind, resG, hp', asAddr, Sem.run_pure, Result.andThen_ok, hrun, w1]
            · cases hl
          · cases hl
        · cases e1
      · cases h2
    · cases h1

theorem resT_ok {J : Inj} {s : St} {a : Act} {w : World} (R : Rel B N nt J s a w) {fn : Func} {cs : List RV} {v : Value} (h1 : compR P fn.results.toList = some cs) (h2 : resT s cs = some v) : ∃ c, (results fn a.tmps).run P w = .ok c w ∧ VRel J s.H v c := by
  unfold resT at h2
  have main : ∀ vs, resVs s cs = some vs → ∃ ws : List Value, (fn.results.mapM (resG a.tmps)).run P w = .ok ws.toArray w ∧ LRel J s.H vs ws := fun vs hvs => by
    obtain ⟨ws, w1, w2⟩ := res_ok (P := P) R h1 hvs
    refine ⟨ws, ?_, w2⟩
    rw [Array.mapM_eq_mapM_toList, Sem.run_map, w1]
    rfl
  split at h2
  · rename_i u hu
    cases h2
    obtain ⟨ws, w1, w2⟩ := main _ hu
    have hl := w2.1
    obtain ⟨y, rfl⟩ : ∃ y, ws = [y] := by
      cases ws with
      | nil => simp at hl
      | cons y l => cases l with
        | nil => exact ⟨y, rfl⟩
        | cons z l => simp at hl
    refine ⟨y, ?_, w2.2 0 v y rfl rfl⟩
    rw [results_eq]
    simp only [Sem.run_bind, w1, Result.andThen_ok]
    simp
  · rename_i vs hne hu
    cases h2
    obtain ⟨ws, w1, w2⟩ := main _ hu
    refine ⟨.tuple ws.toArray, ?_, .tup _ _ (by simpa using w2.1) fun i x y hx hy => w2.2 i x y (by simpa using hx) (by simpa using hy)⟩
    rw [results_eq]
    simp only [Sem.run_bind, w1, Result.andThen_ok]
    have : ¬ (ws.toArray.size = 1) := fun e => by
      have hl := w2.1
      cases vs with
      | nil => simp at hl e; omega
      | cons u l => cases l with
        | nil => exact hne u rfl
        | cons z l => simp at hl e; omega
    rw [dif_neg this]
    rfl
  · cases h2

/-- What is asked of functions that are told by themselves. -/
def PrimSound (P : Program) (B : Nat) (E : Env) : Prop :=
  ∀ f p, E.prim f = some p → ∀ m vs H r H', p m vs H = some (r, H') → (∀ id, m.wr id = true → B ≤ id) → B ≤ H.length →
    (∃ fn, P.funcs[f]? = some fn ∧ fn.body.isSome = true ∧ (fn.name == "runtime.NumGoroutine") = false) ∧
    ∀ (J : Inj) (w : World) (cs : Array Value), WRel B J H w → LRel J H vs cs.toList →
      Calls P f cs w fun e w' => ∃ v J', e = .returned v ∧ Tr B w.heap.size J H w J' H' w' ∧ WRel B J' H' w' ∧ VRel J' H' r v

theorem sound (hmix : P.follows .mixedOrders = true) (hE : E.fns = fnsOf P hv) (hpu : PureSound P ∨ ∀ f d, hv f d = false) (hp : PrimSound P B E) (hpk : PrimKp E) : ∀ k, SoundEv P B (evF E k) := by
  intro k
  induction k using Nat.strongRecOn with
  | _ k ih =>
    intro m f vs H r H' h hm hB
    cases k with
    | zero => simp [evF] at h
    | succ k =>
      rw [evF] at h
      split at h
      · rename_i p hpf
        exact hp f p hpf m vs H r H' h hm hB
      · split at h
        · cases h
        · rename_i cf hcf
          rw [hE] at hcf
          unfold fnsOf at hcf
          split at hcf
          · rename_i fn hfn
            split at hcf
            · cases hcf
            · rename_i hname
              unfold compF at hcf
              split at hcf
              · cases hcf
              · rename_i b hb
                split at hcf
                · rename_i cc rr hcc hrr
                  cases hcf
                  refine ⟨⟨fn, hfn, by rw [hb]; rfl, by simpa using hname⟩, fun J w cs hw hl => ?_⟩
                  split at h
                  · rename_i hlen
                    dsimp only at h hlen
                    cases he : evC E k { m with nr := m.nr || E.tr f } cc { ρ := ini vs, gn := 0, H := H } with
                    | none => rw [he] at h; cases h
                    | some q =>
                      obtain ⟨ex, s⟩ := q
                      rw [he] at h
                      have hkp := ev_kp hpk
                      have R0 := ini_rel (nt := fn.ntmps) hw hl hlen
                      have hkb := (hkp k).2 _ _ _ _ _ he
                      refine calls_of_wp hfn hb ?_
                      refine simC (nt := fn.ntmps) (N := w.heap.size) (k := k) (m := { m with nr := m.nr || E.tr f }) hmix (hpu.imp id fun h => h f) (fun j hj => ih j (by omega)) (fun j => hkp j) hm k (Nat.le_refl _) hcc he hB R0 fun J' a' w' t1 R1 => ?_
                      have fin : ∀ v, resT s rr = some v → (r = v ∧ H' = s.H ∨ r = v ∧ flatScal v = true ∧ E.tr f = true ∧ H' = s.H.take H.length) → bodyPost P fn (fun e w' => ∃ v J', e = .returned v ∧ Tr B w.heap.size J H w J' H' w' ∧ WRel B J' H' w' ∧ VRel J' H' r v) .normal a' w' := fun v hv hcase => by
                        obtain ⟨c, r1, r2⟩ := resT_ok R1 hrr hv
                        refine ⟨R1.df, c, r1, ?_⟩
                        rcases hcase with ⟨rfl, rfl⟩ | ⟨rfl, hfl, htr, rfl⟩
                        · exact ⟨c, J', rfl, t1, R1.wr, r2⟩
                        · obtain ⟨J'', c1, c2⟩ := cut_rel (m := { m with nr := m.nr || E.tr f }) hw t1 R1.wr hkb (by simp [htr])
                          exact ⟨c, J'', rfl, c1, c2, r2.flat hfl⟩
                      have hcase : ex ≠ .exit 0 ∨ True := .inr trivial
                      have fin2 : (∃ v, resT s rr = some v ∧ (r = v ∧ H' = s.H ∨ r = v ∧ flatScal v = true ∧ E.tr f = true ∧ H' = s.H.take H.length)) → ∀ e : Exit, (e = .normal ∨ e = .ret) → bodyPost P fn (fun e w' => ∃ v J', e = .returned v ∧ Tr B w.heap.size J H w J' H' w' ∧ WRel B J' H' w' ∧ VRel J' H' r v) e a' w' := fun ⟨v, h1, h2⟩ e he => by
                        have := fin v h1 h2
                        rcases he with rfl | rfl
                        · exact this
                        · exact this
                      have hres : (match resT s rr with
                          | some v => if E.tr f = true then (if flatScal v = true then some (v, s.H.take H.length) else none) else some (v, s.H)
                          | none => none) = some (r, H') → ∃ v, resT s rr = some v ∧ (r = v ∧ H' = s.H ∨ r = v ∧ flatScal v = true ∧ E.tr f = true ∧ H' = s.H.take H.length) := fun h => by
                        split at h
                        · rename_i v hv
                          refine ⟨v, hv, ?_⟩
                          split at h
                          · rename_i htr
                            split at h
                            · rename_i hfl
                              cases h
                              exact .inr ⟨rfl, hfl, htr, rfl⟩
                            · cases h
                          · cases h; exact .inl ⟨rfl, rfl⟩
                        · cases h
                      cases ex with
                      | normal => exact fin2 (hres h) _ (.inl rfl)
                      | ret => exact fin2 (hres h) _ (.inr rfl)
                      | exit id => cases h
                  · cases h
                · cases hcf
          · cases hcf

/-- The whole: a law that the machine answers with true. -/
theorem law_calls {J : Inj} {H H' : Hp} {w : World} {vs : List Value} {cs : Array Value} {k f : Nat} {b : Bool} (hmix : P.follows .mixedOrders = true) (hE : E.fns = fnsOf P hv) (hpu : PureSound P ∨ ∀ f d, hv f d = false) (hp : PrimSound P H.length E) (hpk : PrimKp E)
    (h : evF E k { wr := fun id => decide (H.length ≤ id), nr := false } f vs H = some (.bool b, H')) (hw : WRel H.length J H w) (hl : LRel J H vs cs.toList) :
    Calls P f cs w fun e w' => e = .returned (.bool b) ∧ RowKit.Below w.heap.size w w' := by
  obtain ⟨_, hc⟩ := sound hmix hE hpu hp hpk k _ _ _ _ _ _ h (fun id hid => by simpa using hid) (Nat.le_refl _)
  refine (hc J w cs hw hl).mono fun e w' ⟨v, J', he, t1, t2, t3⟩ => ?_
  rw [t3.bool_inv] at he
  refine ⟨he, t1.os, t1.tape, t1.output, t1.grow, fun b hb => t1.frame b hb fun id l hl hB => ?_⟩
  rw [hw.dom id hB] at hl
  cases hl

end
end Go.Proofs.YtglboiahgpfjdaaGreat.Ev

/- What the small machine does, step by step: conditions that lead to an answer. -/
namespace Go.Proofs.YtglboiahgpfjdaaGreat.Ev
set_option linter.all false
open Go

def Fun (E : Env) (m : Md) (f : Nat) (vs : List Value) (H : Hp) (Q : Value → Hp → Prop) : Prop :=
  ∃ k r H', evF E k m f vs H = some (r, H') ∧ Q r H'

def Run (E : Env) (m : Md) (c : CC) (s : St) (Q : Ex → St → Prop) : Prop :=
  ∃ k e s', evC E k m c s = some (e, s') ∧ Q e s'

def opt {α : Type} (x : Option α) (Q : α → Prop) : Prop :=
  match x with
  | some a => Q a
  | none => False

def wpK (E : Env) (m : Md) (draw : Bool) (s : St) (k : CK) (Q : FV → St → Prop) : Prop :=
  match k with
  | .call f args => opt (exvs s.ρ args) fun vs => Fun E (if draw then m.drawn E.pw s.H f vs else m) f vs s.H fun r H => Q (.val r) { s with H := H }
  | .callV x args =>
    match exv s.ρ x with
    | some (.func (.func f) first caps) => opt (exvs s.ρ args) fun vs => first.size = 0 ∧ Fun E (if draw then m.drawn E.pw s.H f (vs ++ caps.toList) else m) f (vs ++ caps.toList) s.H fun r H => Q (.val r) { s with H := H }
    | _ => False
  | k => opt (stepK m s k) fun p => Q p.1 p.2

/-- Both ways, of which the simplifier goes into neither. -/
def Br (c : Bool) (P Q : Prop) : Prop := (c = true → P) ∧ (c = false → Q)

def wpO (E : Env) (m : Md) (draw : Bool) (s : St) (o : CO) (Q : St → Prop) : Prop :=
  match o.g with
  | none => wpK E m draw s o.k fun v s' => Q { s' with ρ := upd s'.ρ o.dst v }
  | some (t, b) =>
    match s.ρ t with
    | .val (.bool c) => Br (c == b) (wpK E m draw s o.k fun v s' => Q { s' with ρ := upd s'.ρ o.dst v }) (Q { s with ρ := upd s.ρ o.dst (.val (.tuple #[])) })
    | .val (.tuple _) => Q { s with ρ := upd s.ρ o.dst (.val (.tuple #[])) }
    | _ => False

theorem wpO_on {E : Env} {m : Md} {draw : Bool} {s : St} {o : CO} {Q : St → Prop} (h : wpO E m draw s o Q) :
    match o.on s.ρ with
    | some true => wpK E m draw s o.k fun v s' => Q { s' with ρ := upd s'.ρ o.dst v }
    | some false => Q { s with ρ := upd s.ρ o.dst (.val (.tuple #[])) }
    | none => False := by
  unfold wpO at h
  unfold CO.on
  split at h
  · rename_i hg
    rw [hg]
    exact h
  · rename_i t b hg
    rw [hg]
    simp only
    split at h
    · rename_i c hc
      rw [hc]
      simp only
      cases hcb : c == b with
      | true => exact h.1 hcb
      | false => exact h.2 hcb
    · rename_i c hc
      rw [hc]
      exact h
    · exact h.elim

def wpR (E : Env) (m : Md) : List CO → St → (St → Prop) → Prop
  | [], s, Q => Q s
  | o :: os, s, Q => wpO E m false s o fun s' => wpR E m os s' Q

def wpD (E : Env) (m : Md) : List CO → St → List (CO × Inf) → (St → Prop) → Prop
  | [], s, acc, Q => allApart acc.reverse = true ∧ Q s
  | o :: os, s, acc, Q => wpO E m true s o fun s' => wpD E m os s' ((o, infO E.pw s o) :: acc) Q

def wpC (E : Env) (m : Md) : CC → St → (Ex → St → Prop) → Prop
  | .skip, s, Q => Q .normal s
  | .exit id, s, Q => Q (.exit id) s
  | .ret, s, Q => Q .ret s
  | .reg false ops, s, Q => wpR E m ops s (Q .normal)
  | .reg true ops, s, Q => wpD E m ops s [] (Q .normal)
  | .seq a b, s, Q => wpC E m a s fun e s' =>
    match e with
    | .normal => wpC E m b s' Q
    | .exit j => Q (.exit j) s'
    | .ret => Q .ret s'
  | .cond c a b, s, Q =>
    match exv s.ρ c with
    | some (.bool t) => Br t (wpC E m a s Q) (wpC E m b s Q)
    | _ => False
  | .block id c, s, Q => wpC E m c s fun e s' =>
    match e with
    | .normal => Q .normal s'
    | .exit j => if j = id then Q .normal s' else Q (.exit j) s'
    | .ret => Q .ret s'
  | .loop c, s, Q => Run E m (.loop c) s Q

section
variable {E : Env} {m : Md}

theorem Fun.mono {f : Nat} {vs : List Value} {H : Hp} {Q Q' : Value → Hp → Prop} (h : Fun E m f vs H Q) (hq : ∀ r H', Q r H' → Q' r H') : Fun E m f vs H Q' := by
  obtain ⟨k, r, H', h1, h2⟩ := h
  exact ⟨k, r, H', h1, hq _ _ h2⟩

theorem Run.mono {c : CC} {s : St} {Q Q' : Ex → St → Prop} (h : Run E m c s Q) (hq : ∀ e s', Q e s' → Q' e s') : Run E m c s Q' := by
  obtain ⟨k, r, H', h1, h2⟩ := h
  exact ⟨k, r, H', h1, hq _ _ h2⟩

/-- One operation, with fuel to spare. -/
theorem wpO_ok {draw : Bool} {s : St} {o : CO} {Q : St → Prop} (h : wpO E m draw s o Q) : ∃ k s', (∀ d, stepO E m draw (evF E (k + d)) s o = some s') ∧ Q s' := by
  have h := wpO_on h
  unfold stepO
  split at h
  · rename_i ho
    have key : ∀ {f : Nat} {vs : List Value}, callee s o.k = some (f, vs) → Fun E (if draw then m.drawn E.pw s.H f vs else m) f vs s.H (fun r H => Q { s with H := H, ρ := upd s.ρ o.dst (.val r) }) →
        ∃ k s', (∀ d, (match some true with
          | some true => match stepC E m draw (evF E (k + d)) s o.k with
            | some (v, s') => some { s' with ρ := upd s'.ρ o.dst v }
            | none => none
          | some false => some { s with ρ := upd s.ρ o.dst (.val (.tuple #[])) }
          | none => none) = some s') ∧ Q s' := fun {f vs} hc hf => by
      obtain ⟨k, r, H', h1, h2⟩ := hf
      refine ⟨k, _, fun d => ?_, h2⟩
      unfold stepC
      rw [hc]
      simp only
      rw [evF_mono d h1]
    rw [ho]
    revert key h
    cases hk : o.k with
    | call f args =>
      intro h key
      simp only [wpK] at h
      cases ha : exvs s.ρ args with
      | none => rw [ha] at h; exact h.elim
      | some vs => rw [ha] at h; exact key (by simp only [callee, ha]) h
    | callV x args =>
      intro h key
      simp only [wpK] at h
      split at h
      · rename_i f first caps hx
        cases ha : exvs s.ρ args with
        | none => rw [ha] at h; exact h.elim
        | some vs => rw [ha] at h; exact key (by simp only [callee, ha, hx]; rw [if_pos h.1]) h.2
      · exact h.elim
    | _ =>
      intro h key
      simp only [wpK] at h
      unfold opt at h
      split at h
      · rename_i p hp
        refine ⟨0, _, fun d => ?_, h⟩
        unfold stepC
        simp only [callee]
        rw [hp]
      · exact h.elim
  · rename_i ho
    rw [ho]
    exact ⟨0, _, fun d => rfl, h⟩
  · exact h.elim

theorem wpR_ok : ∀ {os : List CO} {s : St} {Q : St → Prop}, wpR E m os s Q → ∃ k s', (∀ d, runR E m false (evF E (k + d)) os s = some s') ∧ Q s'
  | [], s, Q, h => ⟨0, s, fun d => rfl, h⟩
  | o :: os, s, Q, h => by
    simp only [wpR] at h
    obtain ⟨k1, s1, h1, h2⟩ := wpO_ok h
    obtain ⟨k2, s2, h3, h4⟩ := wpR_ok h2
    refine ⟨k1 + k2, s2, fun d => ?_, h4⟩
    unfold runR
    rw [Nat.add_assoc, h1 (k2 + d)]
    simp only
    have := h3 (k1 + d)
    rw [show k1 + (k2 + d) = k2 + (k1 + d) by omega]
    exact this

theorem wpD_ok : ∀ {os : List CO} {s : St} {acc : List (CO × Inf)} {Q : St → Prop}, wpD E m os s acc Q → ∃ k s' l, (∀ d, runR E m true (evF E (k + d)) os s = some s' ∧ infR E m (evF E (k + d)) os s = l) ∧ allApart (acc.reverse ++ l) = true ∧ Q s'
  | [], s, acc, Q, h => ⟨0, s, [], fun d => ⟨rfl, rfl⟩, by simpa using h.1, h.2⟩
  | o :: os, s, acc, Q, h => by
    simp only [wpD] at h
    obtain ⟨k1, s1, h1, h2⟩ := wpO_ok h
    obtain ⟨k2, s2, l, h3, h4, h5⟩ := wpD_ok h2
    refine ⟨k1 + k2, s2, (o, infO E.pw s o) :: l, fun d => ?_, by simpa using h4, h5⟩
    have := h3 (k1 + d)
    rw [show k2 + (k1 + d) = k1 + k2 + d by omega] at this
    have h1' := h1 (k2 + d)
    rw [← Nat.add_assoc] at h1'
    unfold runR infR
    rw [h1']
    exact ⟨this.1, by simp only [this.2]⟩

theorem wpC_ok : ∀ {c : CC} {s : St} {Q : Ex → St → Prop}, wpC E m c s Q → Run E m c s Q
  | .skip, s, Q, h => ⟨1, _, _, rfl, h⟩
  | .exit id, s, Q, h => ⟨1, _, _, rfl, h⟩
  | .ret, s, Q, h => ⟨1, _, _, rfl, h⟩
  | .reg false ops, s, Q, h => by
    simp only [wpC] at h
    obtain ⟨k, s', h1, h2⟩ := wpR_ok h
    have h1 := h1 0
    refine ⟨k + 1, .normal, s', ?_, h2⟩
    rw [evC]
    simp only [Bool.false_eq_true, false_and, if_false]
    rw [Nat.add_zero] at h1
    rw [h1]
  | .reg true ops, s, Q, h => by
    simp only [wpC] at h
    obtain ⟨k, s', l, h1, h2, h3⟩ := wpD_ok h
    have h1 := h1 0
    rw [Nat.add_zero] at h1
    refine ⟨k + 1, .normal, s', ?_, h3⟩
    rw [evC, h1.2, h1.1]
    simp only [List.reverse_nil, List.nil_append] at h2
    simp [h2]
  | .seq a b, s, Q, h => by
    simp only [wpC] at h
    obtain ⟨k, e, s', h1, h2⟩ := wpC_ok h
    cases e with
    | normal =>
      obtain ⟨k2, e2, s2, h3, h4⟩ := wpC_ok h2
      refine ⟨k + k2 + 1, e2, s2, ?_, h4⟩
      rw [evC, evC_mono k2 h1]
      simp only
      rw [Nat.add_comm k k2]
      exact evC_mono k h3
    | exit j => exact ⟨k + 1, _, _, by rw [evC, h1], h2⟩
    | ret => exact ⟨k + 1, _, _, by rw [evC, h1], h2⟩
  | .cond c a b, s, Q, h => by
    simp only [wpC] at h
    split at h
    · rename_i t ht
      cases t with
      | true =>
        obtain ⟨k, e, s', h1, h2⟩ := wpC_ok (h.1 rfl)
        exact ⟨k + 1, e, s', by rw [evC, ht]; exact h1, h2⟩
      | false =>
        obtain ⟨k, e, s', h1, h2⟩ := wpC_ok (h.2 rfl)
        exact ⟨k + 1, e, s', by rw [evC, ht]; exact h1, h2⟩
    · exact h.elim
  | .block id c, s, Q, h => by
    simp only [wpC] at h
    obtain ⟨k, e, s', h1, h2⟩ := wpC_ok h
    cases e with
    | normal => exact ⟨k + 1, _, _, by rw [evC, h1], h2⟩
    | exit j =>
      by_cases hj : j = id
      · exact ⟨k + 1, .normal, s', by rw [evC, h1]; simp only [if_pos hj], by simpa only [if_pos hj] using h2⟩
      · exact ⟨k + 1, .exit j, s', by rw [evC, h1]; simp only [if_neg hj], by simpa only [if_neg hj] using h2⟩
    | ret => exact ⟨k + 1, _, _, by rw [evC, h1], h2⟩
  | .loop c, s, Q, h => h

/-- A loop that comes down. -/
theorem loop_ok {c : CC} {Q : Ex → St → Prop} (I : Nat → St → Prop) (step : ∀ n s, I n s → wpC E m c s fun e s' => match e with
    | .normal => ∃ n' < n, I n' s'
    | .exit j => Q (.exit j) s'
    | .ret => Q .ret s') : ∀ n s, I n s → Run E m (.loop c) s Q := by
  intro n
  induction n using Nat.strongRecOn with
  | _ n ih =>
    intro s h
    obtain ⟨k, e, s', h1, h2⟩ := wpC_ok (step n s h)
    cases e with
    | normal =>
      obtain ⟨n', hn, hi⟩ := h2
      obtain ⟨k2, e2, s2, h3, h4⟩ := ih n' hn s' hi
      refine ⟨k + k2 + 1, e2, s2, ?_, h4⟩
      rw [evC, evC_mono k2 h1]
      simp only
      rw [Nat.add_comm k k2]
      exact evC_mono k h3
    | exit j => exact ⟨k + 1, _, _, by rw [evC, h1], h2⟩
    | ret => exact ⟨k + 1, _, _, by rw [evC, h1], h2⟩

/-- What a function's end is. -/
def FunPost (E : Env) (f : Nat) (res : List RV) (H : Hp) (Q : Value → Hp → Prop) (e : Ex) (s : St) : Prop :=
  match e with
  | .exit _ => False
  | _ => opt (resT s res) fun v => if E.tr f = true then flatScal v = true ∧ Q v (s.H.take H.length) else Q v s.H

theorem Fun.intro {f : Nat} {cf : CF} {vs : List Value} {H : Hp} {Q : Value → Hp → Prop} (hp : E.prim f = none) (hf : E.fns f = some cf) (hl : vs.length ≤ cf.nt)
    (h : Run E { m with nr := m.nr || E.tr f } cf.body { ρ := ini vs, gn := 0, H := H } (FunPost E f cf.res H Q)) : Fun E m f vs H Q := by
  obtain ⟨k, e, s', h1, h2⟩ := h
  have fin : e ≠ .exit 0 ∨ True := .inr trivial
  have main : opt (resT s' cf.res) (fun v => if E.tr f = true then flatScal v = true ∧ Q v (s'.H.take H.length) else Q v s'.H) → (match resT s' cf.res with
      | some v => if E.tr f then (if flatScal v then some (v, s'.H.take H.length) else none) else some (v, s'.H)
      | none => none) = evF E (k + 1) m f vs H → Fun E m f vs H Q := fun h2 h3 => by
    unfold opt at h2
    cases hr : resT s' cf.res with
    | none => rw [hr] at h2; exact h2.elim
    | some v =>
      rw [hr] at h2 h3
      simp only at h2 h3
      by_cases ht : E.tr f = true
      · rw [if_pos ht] at h2 h3
        rw [if_pos h2.1] at h3
        exact ⟨k + 1, _, _, h3.symm, h2.2⟩
      · rw [if_neg ht] at h2 h3
        exact ⟨k + 1, _, _, h3.symm, h2⟩
  cases e with
  | exit j => exact h2.elim
  | normal => exact main h2 (by rw [evF, hp]; simp only [hf, if_pos hl, h1]; cases resT s' cf.res <;> rfl)
  | ret => exact main h2 (by rw [evF, hp]; simp only [hf, if_pos hl, h1]; cases resT s' cf.res <;> rfl)

end
end Go.Proofs.YtglboiahgpfjdaaGreat.Ev

/- Regions with an open order: what is to be looked at beforehand, and what then is left. -/
namespace Go.Proofs.YtglboiahgpfjdaaGreat.Ev
set_option linter.all false
open Go

/-- The boxes of the frame that an operation goes through, and whether it reads no row. -/
def boxOf (ρ : Nat → FV) (o : CO) : List Nat × Bool :=
  match o.k with
  | .load _ _ x => ((adInf ρ x).1, (adInf ρ x).2.isEmpty)
  | .fadr _ x | .iadrA _ _ x _ => ((adInf ρ x).1, true)
  | .b2s _ => ([], false)
  | .store _ x _ => ((adInf ρ x).1, true)
  | _ => ([], true)

/-- What an operation reads and writes in the frame, if it makes and writes nothing of memory; or it is a call, or makes memory. -/
def statI (o : CO) (bs : List Nat × Bool) : Option (Bool × List Nat × List Nat) :=
  match o.k with
  | .store .. => if bs.1.isEmpty then some (true, gRd o ++ (o.k.ops.flatMap xs1), o.dst.toList) else some (false, gRd o ++ (o.k.ops.flatMap xs1 ++ bs.1), o.dst.toList ++ bs.1)
  | .newO _ | .boxO _ | .mkO .. | .makeS .. | .s2b .. | .app .. | .cpy .. | .clr .. => some (true, gRd o ++ (o.k.ops.flatMap xs1), o.dst.toList)
  | .call f args => some (true, gRd o ++ (args.flatMap xs1), o.dst.toList)
  | .callV x args => some (true, gRd o ++ ((x :: args).flatMap xs1), o.dst.toList)
  | k => some (false, gRd o ++ (k.ops.flatMap xs1 ++ bs.1), o.dst.toList)

/-- Does it make a box of the frame? -/
def isN (o : CO) : Bool :=
  match o.k with
  | .newV _ | .boxV _ => true
  | _ => false

def chk1 (o : CO) (bs : List Nat × Bool) (o' : CO) (bs' : List Nat × Bool) : Bool :=
  o'.pre.contains o.ix ||
  match statI o bs, statI o' bs' with
  | some a, some b => disj a.2.2 b.2.1 && disj b.2.2 a.2.1 && disj a.2.2 b.2.2 && !(a.1 && b.1) && (!a.1 || bs'.2) && (!b.1 || bs.2) && !(isN o && isN o')
  | _, _ => false

def chk : List CO → List (List Nat × Bool) → Bool
  | [], [] => true
  | o :: os, b :: bs => ((os.zip bs).all fun p => chk1 o b p.1 p.2) && chk os bs
  | _, _ => false

def wpD3 (E : Env) (m : Md) (ops : List CO) : List CO → St → List (List Nat × Bool) → (St → Prop) → Prop
  | [], s, acc, Q => chk ops acc.reverse = true ∧ Q s
  | o :: os, s, acc, Q => wpO E m true s o fun s' => wpD3 E m ops os s' (boxOf s.ρ o :: acc) Q

section
variable {E : Env} {m : Md}

theorem disj_sub {a b a' b' : List Nat} (h : disj a b = true) (ha : ∀ x ∈ a', x ∈ a) (hb : ∀ x ∈ b', x ∈ b) : disj a' b' = true := by
  unfold disj at *
  rw [List.all_eq_true] at *
  intro x hx
  have := h x (ha x hx)
  simp only [List.contains_eq_mem, Bool.not_eq_true', decide_eq_false_iff_not] at *
  exact fun hm => this (hb x hm)

theorem infO_stat {pw : Nat → Bool} {s : St} {o : CO} {a : Bool × List Nat × List Nat} (h : statI o (boxOf s.ρ o) = some a) :
    (a.1 = false → (infO pw s o).he = 0) ∧ ((infO pw s o).gn = true → isN o = true) ∧ (∀ x ∈ (infO pw s o).rd, x ∈ a.2.1) ∧ (∀ x ∈ (infO pw s o).wt, x ∈ a.2.2) ∧ ((boxOf s.ρ o).2 = true → (infO pw s o).hr = []) := by
  unfold infO
  have full : (a.1 = false → (infK pw s o.k).he = 0) ∧ ((infK pw s o.k).gn = true → isN o = true) ∧ (∀ x ∈ gRd o ++ (infK pw s o.k).rd, x ∈ a.2.1) ∧ (∀ x ∈ o.dst.toList ++ (infK pw s o.k).wt, x ∈ a.2.2) ∧ ((boxOf s.ρ o).2 = true → (infK pw s o.k).hr = []) := by
    have call : ∀ {k : CK}, o.k = k → (∃ f args, k = .call f args) ∨ (∃ x args, k = .callV x args) → a = (true, gRd o ++ (k.ops.flatMap xs1), o.dst.toList) →
        (a.1 = false → (infK pw s o.k).he = 0) ∧ ((infK pw s o.k).gn = true → isN o = true) ∧ (∀ x ∈ gRd o ++ (infK pw s o.k).rd, x ∈ a.2.1) ∧ (∀ x ∈ o.dst.toList ++ (infK pw s o.k).wt, x ∈ a.2.2) ∧ ((boxOf s.ρ o).2 = true → (infK pw s o.k).hr = []) := by
      rintro k hk hc rfl
      rw [hk]
      have : (infK pw s k).gn = false ∧ (infK pw s k).rd = k.ops.flatMap xs1 ∧ (infK pw s k).wt = [] ∧ (infK pw s k).hr = [] := by
        rcases hc with ⟨f, args, rfl⟩ | ⟨x, args, rfl⟩ <;> unfold infK <;> simp only <;> split
        · split <;> exact ⟨rfl, rfl, rfl, rfl⟩
        · exact ⟨rfl, rfl, rfl, rfl⟩
        · split <;> exact ⟨rfl, rfl, rfl, rfl⟩
        · exact ⟨rfl, rfl, rfl, rfl⟩
      obtain ⟨h1, h2, h3, h4⟩ := this
      rw [h1, h2, h3, h4]
      exact ⟨fun h => (Bool.noConfusion h), fun h => (Bool.noConfusion h), fun x hx => hx, fun x hx => by simpa using hx, fun _ => rfl⟩
    cases hk : o.k with
    | call f args => exact call hk (.inl ⟨_, _, rfl⟩) (by unfold statI at h; rw [hk] at h; simp only [Option.some.injEq] at h; rw [← h]; rfl) |> fun h => by rw [hk] at h; exact h
    | callV x args => exact call hk (.inr ⟨_, _, rfl⟩) (by unfold statI at h; rw [hk] at h; simp only [Option.some.injEq] at h; rw [← h]; rfl) |> fun h => by rw [hk] at h; exact h
    | store n x y =>
      unfold statI boxOf at h
      unfold boxOf infK
      rw [hk] at h ⊢
      simp only at h ⊢
      unfold adInf at h
      cases hadr : adr s.ρ x with
      | none =>
        rw [hadr] at h
        simp only [List.isEmpty_nil, if_true, Option.some.injEq] at h
        subst h
        simp
      | some ad =>
        cases ad with
        | hp id p e =>
          rw [hadr] at h
          simp only [List.isEmpty_nil, if_true, Option.some.injEq] at h
          subst h
          simp
        | box t p e =>
          rw [hadr] at h
          simp only [List.isEmpty_cons, if_false, Option.some.injEq, Bool.false_eq_true] at h
          subst h
          simp
    | _ =>
      unfold statI boxOf at h
      unfold boxOf infK
      rw [hk] at h ⊢
      first
        | (simp only [reduceCtorEq] at h; done)
        | (simp only [Option.some.injEq] at h; subst h; simp [isN, hk])
  have off : (∀ x ∈ gRd o, x ∈ a.2.1) ∧ ∀ x ∈ o.dst.toList, x ∈ a.2.2 := ⟨fun x hx => full.2.2.1 x (List.mem_append_left _ hx), fun x hx => full.2.2.2.1 x (List.mem_append_left _ hx)⟩
  split
  · exact full
  · exact ⟨fun _ => rfl, fun h => (Bool.noConfusion h), off.1, off.2, fun _ => rfl⟩

theorem calm_nil {a b : Inf} (h : b.hr = []) : a.calm b = true := by
  unfold Inf.calm
  rw [h]
  split <;> rfl

theorem apart_stat {pw : Nat → Bool} {s s' : St} {o o' : CO} (h : chk1 o (boxOf s.ρ o) o' (boxOf s'.ρ o') = true) : (o'.pre.contains o.ix || (infO pw s o).apart (infO pw s' o')) = true := by
  unfold chk1 at h
  rw [Bool.or_eq_true] at h ⊢
  rcases h with h | h
  · exact .inl h
  · refine .inr ?_
    split at h
    · rename_i a b ha hb
      obtain ⟨a1, a2, a3, a4, a5⟩ := infO_stat (pw := pw) ha
      obtain ⟨b1, b2, b3, b4, b5⟩ := infO_stat (pw := pw) hb
      simp only [Bool.and_eq_true] at h
      obtain ⟨⟨⟨⟨⟨⟨h1, h2⟩, h3⟩, h4⟩, h5⟩, h6⟩, h8⟩ := h
      unfold Inf.apart
      have c1 : (infO pw s o).calm (infO pw s' o') = true := by
        cases ha1 : a.1 with
        | false => unfold Inf.calm; rw [a1 ha1]; rfl
        | true => exact calm_nil (b5 (by rw [ha1] at h5; simpa using h5))
      have c2 : (infO pw s' o').calm (infO pw s o) = true := by
        cases hb1 : b.1 with
        | false => unfold Inf.calm; rw [b1 hb1]; rfl
        | true => exact calm_nil (a5 (by rw [hb1] at h6; simpa using h6))
      have c3 : ((infO pw s o).he == 0 || (infO pw s' o').he == 0) = true := by
        cases ha1 : a.1 with
        | false => rw [a1 ha1]; rfl
        | true =>
          rw [ha1] at h4
          rw [b1 (by simpa using h4)]
          simp
      have c4 : (!((infO pw s o).gn && (infO pw s' o').gn)) = true := by
        cases g1 : (infO pw s o).gn with
        | false => rfl
        | true =>
          cases g2 : (infO pw s' o').gn with
          | false => rfl
          | true =>
            rw [a2 g1, b2 g2] at h8
            exact absurd h8 (by decide)
      rw [c1, c2, c3, c4, disj_sub h1 a4 b3, disj_sub h2 b4 a3, disj_sub h3 a4 b4]
      rfl
    · cases h

theorem chk_apart {pw : Nat → Bool} : ∀ {l : List (CO × St)}, chk (l.map (·.1)) (l.map fun p => boxOf p.2.ρ p.1) = true → allApart (l.map fun p => (p.1, infO pw p.2 p.1)) = true
  | [], _ => rfl
  | (o, s) :: l, h => by
    simp only [List.map_cons, chk, Bool.and_eq_true] at h
    simp only [List.map_cons, allApart, Bool.and_eq_true]
    refine ⟨?_, chk_apart h.2⟩
    have h1 := h.1
    rw [List.zip_map', List.all_eq_true] at h1
    rw [List.all_eq_true]
    intro p hp
    obtain ⟨q, hq, rfl⟩ := List.mem_map.1 hp
    exact apart_stat (h1 _ (List.mem_map.2 ⟨q, hq, rfl⟩))

theorem wpK_mono {draw : Bool} {s : St} {k : CK} {Q Q' : FV → St → Prop} (h : wpK E m draw s k Q) (hq : ∀ v s', Q v s' → Q' v s') : wpK E m draw s k Q' := by
  revert h
  cases k with
  | call f args =>
    simp only [wpK]
    cases exvs s.ρ args with
    | none => exact fun h => h
    | some vs => exact fun h => Fun.mono h fun _ _ => hq _ _
  | callV x args =>
    simp only [wpK]
    intro h
    split at h
    · cases ha : exvs s.ρ args with
      | none => rw [ha] at h; exact h
      | some vs => rw [ha] at h; exact ⟨h.1, Fun.mono h.2 fun _ _ => hq _ _⟩
    · exact h.elim
  | _ =>
    simp only [wpK]
    intro h
    unfold opt at *
    split at h
    · exact hq _ _ h
    · exact h.elim

theorem wpO_mono {draw : Bool} {s : St} {o : CO} {Q Q' : St → Prop} (h : wpO E m draw s o Q) (hq : ∀ s', Q s' → Q' s') : wpO E m draw s o Q' := by
  unfold wpO at *
  split at h
  · exact wpK_mono h fun _ _ => hq _
  · split at h
    · exact ⟨fun e => wpK_mono (h.1 e) fun _ _ => hq _, fun e => hq _ (h.2 e)⟩
    · exact hq _ h
    · exact h.elim

theorem wpD3_wpD {ops : List CO} : ∀ {os : List CO} {s : St} {l : List (CO × St)} {Q : St → Prop}, ops = l.map (·.1) ++ os → wpD3 E m ops os s (l.map fun p => boxOf p.2.ρ p.1).reverse Q → wpD E m os s (l.map fun p => (p.1, infO E.pw p.2 p.1)).reverse Q
  | [], s, l, Q, he, h => by
    simp only [wpD3] at h
    simp only [wpD]
    rw [List.reverse_reverse] at h ⊢
    rw [he, List.append_nil] at h
    exact ⟨chk_apart h.1, h.2⟩
  | o :: os, s, l, Q, he, h => by
    simp only [wpD3] at h
    simp only [wpD]
    refine wpO_mono h fun s' h' => ?_
    have := wpD3_wpD (ops := ops) (l := l ++ [(o, s)]) (os := os) (s := s') (Q := Q) (by simp [he]) (by simpa using h')
    simpa using this

/-- Regions with an open order, where no call and no writing stands in the open. -/
theorem wpD_easy {ops : List CO} {s : St} {Q : St → Prop} (h : wpD3 E m ops ops s [] Q) : wpD E m ops s [] Q := wpD3_wpD (l := []) rfl h

theorem upd_some (ρ : Nat → FV) (d : Nat) (v : FV) (i : Nat) : upd ρ (some d) v i = if i = d then v else ρ i := rfl
theorem upd_none (ρ : Nat → FV) (v : FV) : upd ρ none v = ρ := rfl
theorem Br.intro {c : Bool} {P Q : Prop} (h1 : c = true → P) (h2 : c = false → Q) : Br c P Q := ⟨h1, h2⟩
end
/-- .. the same, where calls that write nothing old may stand beside readings of old rows. -/
def box2 (n0 : Nat) (s : St) (o : CO) : List Nat × Bool × Bool :=
  match o.k with
  | .load _ _ x => ((adInf s.ρ x).1, (adInf s.ρ x).2.isEmpty, (adInf s.ρ x).2.all fun id => decide (id < n0))
  | .fadr _ x | .iadrA _ _ x _ => ((adInf s.ρ x).1, true, true)
  | .b2s _ => ([], false, false)
  | .store _ x _ => ((adInf s.ρ x).1, true, true)
  | .call _ args => ([], true, (exvs s.ρ args).isSome && decide (n0 ≤ s.H.length))
  | .newO _ | .boxO _ | .mkO .. | .makeS .. | .s2b .. => ([], true, decide (n0 ≤ s.H.length))
  | .app _ _ x _ => ([], true, decide (n0 ≤ s.H.length) && ((exv s.ρ x).map fun v => (idsOf v).all fun id => decide (n0 ≤ id)) == some true)
  | _ => ([], true, true)

def stat2 (pw : Nat → Bool) (o : CO) (bs : List Nat × Bool × Bool) : Option (Nat × List Nat × List Nat) :=
  match o.k with
  | .store .. => if bs.1.isEmpty then some (2, gRd o ++ (o.k.ops.flatMap xs1), o.dst.toList) else some (0, gRd o ++ (o.k.ops.flatMap xs1 ++ bs.1), o.dst.toList ++ bs.1)
  | .newO _ | .boxO _ | .mkO .. | .makeS .. | .s2b .. | .app .. => some (if bs.2.2 then 1 else 2, gRd o ++ (o.k.ops.flatMap xs1), o.dst.toList)
  | .cpy .. | .clr .. => some (2, gRd o ++ (o.k.ops.flatMap xs1), o.dst.toList)
  | .call f args => some (if pw f && bs.2.2 then 1 else 2, gRd o ++ (args.flatMap xs1), o.dst.toList)
  | .callV x args => some (2, gRd o ++ ((x :: args).flatMap xs1), o.dst.toList)
  | k => some (0, gRd o ++ (k.ops.flatMap xs1 ++ bs.1), o.dst.toList)

def chk21 (pw : Nat → Bool) (o : CO) (bs : List Nat × Bool × Bool) (o' : CO) (bs' : List Nat × Bool × Bool) : Bool :=
  o'.pre.contains o.ix ||
  match stat2 pw o bs, stat2 pw o' bs' with
  | some a, some b => disj a.2.2 b.2.1 && disj b.2.2 a.2.1 && disj a.2.2 b.2.2 && (a.1 == 0 || b.1 == 0) && (a.1 == 0 || bs'.2.1 || (a.1 == 1 && bs'.2.2)) && (b.1 == 0 || bs.2.1 || (b.1 == 1 && bs.2.2)) && !(isN o && isN o')
  | _, _ => false

def chk2 (pw : Nat → Bool) : List CO → List (List Nat × Bool × Bool) → Bool
  | [], [] => true
  | o :: os, b :: bs => ((os.zip bs).all fun p => chk21 pw o b p.1 p.2) && chk2 pw os bs
  | _, _ => false

def wpD4 (E : Env) (m : Md) (ops : List CO) (n0 : Nat) : List CO → St → List (List Nat × Bool × Bool) → (St → Prop) → Prop
  | [], s, acc, Q => chk2 E.pw ops acc.reverse = true ∧ Q s
  | o :: os, s, acc, Q => wpO E m true s o fun s' => wpD4 E m ops n0 os s' (box2 n0 s o :: acc) Q

section
variable {E : Env} {m : Md} {n0 : Nat}

end

/-- .. the same, where calls may stand beside readings of rows in a window, if they write outside of it. -/
def box3 (wl wh : Nat) (s : St) (o : CO) : List Nat × Bool × Bool :=
  match o.k with
  | .load _ _ x => ((adInf s.ρ x).1, (adInf s.ρ x).2.isEmpty, (adInf s.ρ x).2.all fun id => decide (wl ≤ id) && decide (id < wh))
  | .fadr _ x | .iadrA _ _ x _ => ((adInf s.ρ x).1, true, true)
  | .b2s _ => ([], false, false)
  | .store _ x _ => ((adInf s.ρ x).1, true, true)
  | .call _ args => ([], true, decide (wh ≤ s.H.length) && ((exvs s.ρ args).map fun vs => (vs.flatMap idsOf).all fun id => decide (id < wl) || decide (wh ≤ id)) == some true)
  | .newO _ | .boxO _ | .mkO .. | .makeS .. | .s2b .. => ([], true, decide (wh ≤ s.H.length))
  | .app _ _ x _ => ([], true, decide (wh ≤ s.H.length) && ((exv s.ρ x).map fun v => (idsOf v).all fun id => decide (id < wl) || decide (wh ≤ id)) == some true)
  | _ => ([], true, true)

def stat3 (pw : Nat → Bool) (o : CO) (bs : List Nat × Bool × Bool) : Option (Nat × List Nat × List Nat) :=
  match o.k with
  | .store .. => if bs.1.isEmpty then some (2, gRd o ++ (o.k.ops.flatMap xs1), o.dst.toList) else some (0, gRd o ++ (o.k.ops.flatMap xs1 ++ bs.1), o.dst.toList ++ bs.1)
  | .newO _ | .boxO _ | .mkO .. | .makeS .. | .s2b .. | .app .. => some (if bs.2.2 then 1 else 2, gRd o ++ (o.k.ops.flatMap xs1), o.dst.toList)
  | .cpy .. | .clr .. => some (2, gRd o ++ (o.k.ops.flatMap xs1), o.dst.toList)
  | .call f args => some (if bs.2.2 then 1 else 2, gRd o ++ (args.flatMap xs1), o.dst.toList)
  | .callV x args => some (2, gRd o ++ ((x :: args).flatMap xs1), o.dst.toList)
  | k => some (0, gRd o ++ (k.ops.flatMap xs1 ++ bs.1), o.dst.toList)

def chk31 (pw : Nat → Bool) (o : CO) (bs : List Nat × Bool × Bool) (o' : CO) (bs' : List Nat × Bool × Bool) : Bool :=
  o'.pre.contains o.ix ||
  match stat3 pw o bs, stat3 pw o' bs' with
  | some a, some b => disj a.2.2 b.2.1 && disj b.2.2 a.2.1 && disj a.2.2 b.2.2 && (a.1 == 0 || b.1 == 0) && (a.1 == 0 || bs'.2.1 || (a.1 == 1 && bs'.2.2)) && (b.1 == 0 || bs.2.1 || (b.1 == 1 && bs.2.2)) && !(isN o && isN o')
  | _, _ => false

def chk3 (pw : Nat → Bool) : List CO → List (List Nat × Bool × Bool) → Bool
  | [], [] => true
  | o :: os, b :: bs => ((os.zip bs).all fun p => chk31 pw o b p.1 p.2) && chk3 pw os bs
  | _, _ => false

def wpD5 (E : Env) (m : Md) (ops : List CO) (wl wh : Nat) : List CO → St → List (List Nat × Bool × Bool) → (St → Prop) → Prop
  | [], s, acc, Q => chk3 E.pw ops acc.reverse = true ∧ Q s
  | o :: os, s, acc, Q => wpO E m true s o fun s' => wpD5 E m ops wl wh os s' (box3 wl wh s o :: acc) Q

section
variable {E : Env} {m : Md} {wl wh : Nat}

end

end Go.Proofs.YtglboiahgpfjdaaGreat.Ev
