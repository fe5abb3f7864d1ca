/- What the small machine answers, Go answers: functions. -/
import Derived.Test.YtdplmjlbkaipiaaE15
namespace Go.Proofs.Ytdplmjlbkaipiaa.Ev
set_option linter.all false
open Go

theorem VRel.cut {J J' J'' : Inj} {H H' H'' : Hp} (hh : ∀ id, id < H.length → H''[id]? = H'[id]? ∧ J'' id = J' id) {v c0 : Value} (h : VRel J H v c0) : ∀ {c : Value}, VRel J' H' v c → VRel J'' H'' v c := by
  induction h with
  | int k n => intro c h; cases h; exact .int _ _
  | bool b => intro c h; cases h; exact .bool _
  | str s => intro c h; cases h; exact .str _
  | nptr => intro c h; cases h; exact .nptr
  | nsl => intro c h; cases h; exact .nsl
  | nfn => intro c h; cases h; exact .nfn
  | ptr id off gen o a h hg hv =>
    intro c h2
    have hid := (List.getElem?_eq_some_iff.1 h).1
    cases h2 with
    | ptr _ _ _ o2 a2 g1 g2 g3 => exact .ptr _ _ _ o2 a2 (by rw [(hh id hid).1]; exact g1) g2 fun e => by rw [(hh id hid).2]; exact g3 e
  | sl id off e len cap o a ccap h hg hl hc hv =>
    intro c h2
    have hid := (List.getElem?_eq_some_iff.1 h).1
    cases h2 with
    | sl _ _ _ _ _ o2 a2 cc2 g1 g2 g3 g4 g5 => exact .sl _ _ _ _ _ o2 a2 cc2 (by rw [(hh id hid).1]; exact g1) g2 g3 g4 fun e => by rw [(hh id hid).2]; exact g5 e
  | agg cs ds hs h1 h ih =>
    intro c h2
    cases h2 with
    | agg _ ds2 hs2 h12 h2 =>
      refine .agg cs ds2 hs2 h12 fun i x y hx hy => ?_
      have hi := (Array.getElem?_eq_some_iff.1 hx).1
      exact ih i x (ds[i]'(by omega)) hx (Array.getElem?_eq_getElem _) (h2 i x y hx hy)
  | tup cs ds hs h ih =>
    intro c h2
    cases h2 with
    | tup _ ds2 hs2 h2 =>
      refine .tup cs ds2 hs2 fun i x y hx hy => ?_
      have hi := (Array.getElem?_eq_some_iff.1 hx).1
      exact ih i x (ds[i]'(by omega)) hx (Array.getElem?_eq_getElem _) (h2 i x y hx hy)
  | fn f cs ds hs h ih =>
    intro c h2
    cases h2 with
    | fn _ _ ds2 hs2 h2 =>
      refine .fn f cs ds2 hs2 fun i x y hx hy => ?_
      have hi := (Array.getElem?_eq_some_iff.1 hx).1
      exact ih i x (ds[i]'(by omega)) hx (Array.getElem?_eq_getElem _) (h2 i x y hx hy)

theorem VRel.cells_scal {J J' : Inj} {H H' : Hp} {v c : Value} (h : VRel J H v c) (hs : (vcells v).all Ev.scal = true) : VRel J' H' v c := by
  cases h with
  | agg cs ds hz h1 h =>
    refine .agg cs ds hz h1 fun i x y hx hy => ?_
    have hx2 : Ev.scal x = true := List.all_eq_true.1 hs x (by simpa [vcells] using Array.mem_of_getElem? hx)
    have := (h i x y hx hy).of_scal hx2
    subst this
    exact .scal hx2
  | tup cs ds hz h => simp [vcells, Ev.scal] at hs
  | fn f cs ds hz h => simp [vcells, Ev.scal] at hs
  | ptr id off gen o a h hg hv => simp [vcells, Ev.scal] at hs
  | sl id off e len cap o a ccap h hg hl hc hv => simp [vcells, Ev.scal] at hs
  | int k n => exact .int _ _
  | bool b => exact .bool _
  | str s => exact .str _
  | nptr => exact .nptr
  | nsl => exact .nsl
  | nfn => exact .nfn

theorem VRel.flat {J J' : Inj} {H H' : Hp} {v c : Value} (h : VRel J H v c) (hs : flatScal v = true) : VRel J' H' v c := by
  unfold flatScal at hs
  split at hs
  · exact h.cells_scal (by simpa [vcells] using hs)
  · rename_i vs
    cases h with
    | tup _ ds hz h =>
      refine .tup vs ds hz fun i x y hx hy => (h i x y hx hy).cells_scal ?_
      exact List.all_eq_true.1 hs x (by simpa using Array.mem_of_getElem? hx)
  · have := h.of_scal hs
    subst this
    exact .scal hs

theorem cut_rel {B N : Nat} {J J' : Inj} {H H' : Hp} {w w' : World} {m : Md} (h0 : WRel B J H w) (ht : Tr B N J H w J' H' w') (hw : WRel B J' H' w') (hk : Kp m H H') (hn : m.nr = true) :
    ∃ J'', Tr B N J H w J'' (H'.take H.length) w' ∧ WRel B J'' (H'.take H.length) w' := by
  have hlen := hk.len
  have hget : ∀ id, id < H.length → (H'.take H.length)[id]? = H'[id]? := fun id hid => by rw [List.getElem?_take, if_pos hid]
  refine ⟨fun id => if id < H.length then J' id else none, ⟨fun id o ho => ?_, ht.frame, fun id l' hl => ?_, ht.grow, ht.os, ht.tape, ht.output⟩, ⟨fun id o ho => ?_, fun id id' l l' hne hB hl hl' => ?_, fun id hid => ?_⟩⟩
  · have hid := (List.getElem?_eq_some_iff.1 ho).1
    obtain ⟨o', h1, h2⟩ := ht.keep id o ho
    refine ⟨o', by rw [hget id hid]; exact h1, ?_⟩
    simp only [if_pos hid]
    exact h2
  · split at hl
    · exact ht.img id l' hl
    · cases hl
  · have hid : id < H.length := by
      have := (List.getElem?_eq_some_iff.1 ho).1
      rw [List.length_take] at this
      omega
    rw [hget id hid] at ho
    obtain ⟨l, ds, e, lo, hi, a1, a2, a3, a4, a5, a6⟩ := hw.row id o ho
    refine ⟨l, ds, e, lo, hi, by simp only [if_pos hid]; exact a1, a2, a3, a4, fun i v hv => ?_, a6⟩
    obtain ⟨b1, d, b2, b3⟩ := a5 i v hv
    refine ⟨b1, d, b2, ?_⟩
    obtain ⟨o0, ho0, hmem⟩ := hk.nr hn id o hid ho
    rcases hmem v (List.mem_of_getElem? hv) with hs | hs
    · have := b3.of_scal hs
      subst this
      exact .scal hs
    · obtain ⟨k, hk2⟩ := List.getElem?_of_mem hs
      obtain ⟨_, _, _, _, _, _, _, _, _, c5, _⟩ := h0.row id o0 ho0
      obtain ⟨_, d0, _, r0⟩ := c5 k v hk2
      exact VRel.cut (fun id2 hid2 => ⟨hget id2 hid2, by simp only [if_pos hid2]⟩) r0 b3
  · split at hl
    · split at hl'
      · exact hw.uni id id' l l' hne hB hl hl'
      · cases hl'
    · cases hl
  · have : H.length ≤ id := by
      rw [List.length_take] at hid
      omega
    show (if id < H.length then J' id else none) = none
    rw [if_neg (by omega)]

section
variable {P : Program} {B N nt : Nat} {E : Env} {hv : Nat → Nat → Bool}

theorem ini_rel {J : Inj} {H : Hp} {w : World} {vs : List Value} {cs : Array Value} (hw : WRel B J H w) (hl : LRel J H vs cs.toList) (hn : vs.length ≤ nt) :
    Rel B w.heap.size nt J { ρ := ini vs, gn := 0, H := H } { tmps := cs ++ Array.replicate (nt - cs.size) undef, defers := [] } w := by
  have hsz : vs.length = cs.size := by rw [hl.1, Array.length_toList]
  refine ⟨hw, ⟨fun _ => none, ⟨fun t => ?_, fun _ _ _ h _ => by simp at h, fun _ _ h => by simp at h, fun t g cs' h => ?_, fun t t' g off h => ?_⟩⟩, rfl, by simp; omega, Nat.le_refl _⟩
  · unfold FOk
    dsimp only
    simp only [ini]
    cases hv : vs[t]? with
    | none => trivial
    | some v =>
      have ht := (List.getElem?_eq_some_iff.1 hv).1
      obtain ⟨y, hy, hr⟩ := hl.get hv
      dsimp only
      have : (cs ++ Array.replicate (nt - cs.size) undef).getD t undef = y := by
        rw [Array.getD_eq_getD_getElem?, Array.getElem?_append_left (by omega)]
        rw [Array.getElem?_toList] at hy
        rw [hy]
        rfl
      rw [this]
      exact hr
  · dsimp only at h
    simp only [ini] at h
    split at h <;> cases h
  · dsimp only at h
    simp only [ini] at h
    split at h <;> cases h

def resG (tmps : Array Value) : ResultVar → Sem Value
  | .tmp t => pure (tmps.getD t undef)
  | .cell b t => do loadVar t (← asAddr (tmps.getD b undef))

theorem results_eq (fn : Func) (tmps : Array Value) : results fn tmps = (do
    let vs ← fn.results.mapM (resG tmps)
    pure (if h : vs.size = 1 then vs[0] else .tuple vs) : Sem Value) := by
  unfold results
  have : (fun r : ResultVar => match r with
    | .tmp t => pure (tmps.getD t undef)
    | .cell a t => do loadVar t (← asAddr (tmps.getD a undef)) : ResultVar → Sem Value) = resG tmps := by
    funext r
    cases r <;> rfl
  rw [← this]
  rfl

theorem res_ok {J : Inj} {s : St} {a : Act} {w : World} (R : Rel B N nt J s a w) : ∀ {rs : List ResultVar} {cs : List RV} {vs : List Value}, compR P rs = some cs → resVs s cs = some vs →
    ∃ ws : List Value, (rs.mapM (resG a.tmps)).run P w = .ok ws w ∧ LRel J s.H vs ws
  | [], cs, vs, h1, h2 => by
    simp only [compR] at h1; cases h1
    simp only [resVs] at h2; cases h2
    exact ⟨[], by simp, .nil⟩
  | .tmp t :: rs, cs, vs, h1, h2 => by
    simp only [compR] at h1
    split at h1
    · rename_i cs' hc
      cases h1
      simp only [resVs] at h2
      split at h2
      · rename_i v vs' e1 e2
        cases h2
        obtain ⟨ws, w1, w2⟩ := res_ok R hc e2
        refine ⟨a.tmps.getD t undef :: ws, ?_, .cons (opx R (x := .tmp t) rfl e1) w2⟩
        simp only [List.mapM_cons, Sem.run_bind, resG, Sem.run_pure, Result.andThen_ok, w1]
      · cases h2
    · cases h1
  | .cell b t :: rs, cs, vs, h1, h2 => by
    simp only [compR] at h1
    split at h1
    · rename_i n agg cs' hi hc
      cases h1
      simp only [resVs] at h2
      split at h2
      · rename_i v vs' e1 e2
        cases h2
        obtain ⟨ws, w1, w2⟩ := res_ok R hc e2
        simp only [resV] at e1
        split at e1
        · rename_i v' s1 hl
          cases e1
          unfold loadK at hl
          split at hl
          · rename_i ad ha
            split at hl
            · rename_i os off hr
              obtain ⟨p, v2, fv, hp, hrun, hfv, hs1, hvr⟩ := load_ok (P := P) R hi (fun own ho => adr_ok R ho (x := .tmp b) rfl ha) hr hl
              cases hfv
              refine ⟨v2 :: ws, ?_, .cons hvr w2⟩
              have hp' : a.tmps.getD b undef = .pointer (some p) := hp
              simp only [List.mapM_cons, Sem.run_bind, resG, hp', asAddr, Sem.run_pure, Result.andThen_ok, hrun, w1]
            · cases hl
          · cases hl
        · cases e1
      · cases h2
    · cases h1

theorem resT_ok {J : Inj} {s : St} {a : Act} {w : World} (R : Rel B N nt J s a w) {fn : Func} {cs : List RV} {v : Value} (h1 : compR P fn.results.toList = some cs) (h2 : resT s cs = some v) : ∃ c, (results fn a.tmps).run P w = .ok c w ∧ VRel J s.H v c := by
  unfold resT at h2
  have main : ∀ vs, resVs s cs = some vs → ∃ ws : List Value, (fn.results.mapM (resG a.tmps)).run P w = .ok ws.toArray w ∧ LRel J s.H vs ws := fun vs hvs => by
    obtain ⟨ws, w1, w2⟩ := res_ok (P := P) R h1 hvs
    refine ⟨ws, ?_, w2⟩
    rw [Array.mapM_eq_mapM_toList, Sem.run_map, w1]
    rfl
  split at h2
  · rename_i u hu
    cases h2
    obtain ⟨ws, w1, w2⟩ := main _ hu
    have hl := w2.1
    obtain ⟨y, rfl⟩ : ∃ y, ws = [y] := by
      cases ws with
      | nil => simp at hl
      | cons y l => cases l with
        | nil => exact ⟨y, rfl⟩
        | cons z l => simp at hl
    refine ⟨y, ?_, w2.2 0 v y rfl rfl⟩
    rw [results_eq]
    simp only [Sem.run_bind, w1, Result.andThen_ok]
    simp
  · rename_i vs hne hu
    cases h2
    obtain ⟨ws, w1, w2⟩ := main _ hu
    refine ⟨.tuple ws.toArray, ?_, .tup _ _ (by simpa using w2.1) fun i x y hx hy => w2.2 i x y (by simpa using hx) (by simpa using hy)⟩
    rw [results_eq]
    simp only [Sem.run_bind, w1, Result.andThen_ok]
    have : ¬ (ws.toArray.size = 1) := fun e => by
      have hl := w2.1
      cases vs with
      | nil => simp at hl e; omega
      | cons u l => cases l with
        | nil => exact hne u rfl
        | cons z l => simp at hl e; omega
    rw [dif_neg this]
    rfl
  · cases h2

/-- What is asked of functions that are told by themselves. -/
def PrimSound (P : Program) (B : Nat) (E : Env) : Prop :=
  ∀ f p, E.prim f = some p → ∀ m vs H r H', p m vs H = some (r, H') → (∀ id, m.wr id = true → B ≤ id) → B ≤ H.length →
    (∃ fn, P.funcs[f]? = some fn ∧ fn.body.isSome = true ∧ (fn.name == "runtime.NumGoroutine") = false) ∧
    ∀ (J : Inj) (w : World) (cs : Array Value), WRel B J H w → LRel J H vs cs.toList →
      Calls P f cs w fun e w' => ∃ v J', e = .returned v ∧ Tr B w.heap.size J H w J' H' w' ∧ WRel B J' H' w' ∧ VRel J' H' r v

theorem sound (hmix : P.follows .mixedOrders = true) (hE : E.fns = fnsOf P hv) (hp : PrimSound P B E) (hpk : PrimKp E) : ∀ k, SoundEv P B (evF E k) := by
  intro k
  induction k using Nat.strongRecOn with
  | _ k ih =>
    intro m f vs H r H' h hm hB
    cases k with
    | zero => simp [evF] at h
    | succ k =>
      rw [evF] at h
      split at h
      · rename_i p hpf
        exact hp f p hpf m vs H r H' h hm hB
      · split at h
        · cases h
        · rename_i cf hcf
          rw [hE] at hcf
          unfold fnsOf at hcf
          split at hcf
          · rename_i fn hfn
            split at hcf
            · cases hcf
            · rename_i hname
              unfold compF at hcf
              split at hcf
              · cases hcf
              · rename_i b hb
                split at hcf
                · rename_i cc rr hcc hrr
                  cases hcf
                  refine ⟨⟨fn, hfn, by rw [hb]; rfl, by simpa using hname⟩, fun J w cs hw hl => ?_⟩
                  split at h
                  · rename_i hlen
                    dsimp only at h hlen
                    cases he : evC E k { m with nr := m.nr || E.tr f } cc { ρ := ini vs, gn := 0, H := H } with
                    | none => rw [he] at h; cases h
                    | some q =>
                      obtain ⟨ex, s⟩ := q
                      rw [he] at h
                      have hkp := ev_kp hpk
                      have R0 := ini_rel (nt := fn.ntmps) hw hl hlen
                      have hkb := (hkp k).2 _ _ _ _ _ he
                      refine calls_of_wp hfn hb ?_
                      refine simC (nt := fn.ntmps) (N := w.heap.size) (k := k) (m := { m with nr := m.nr || E.tr f }) hmix (fun j hj => ih j (by omega)) (fun j => hkp j) hm k (Nat.le_refl _) hcc he hB R0 fun J' a' w' t1 R1 => ?_
                      have fin : ∀ v, resT s rr = some v → (r = v ∧ H' = s.H ∨ r = v ∧ flatScal v = true ∧ E.tr f = true ∧ H' = s.H.take H.length) → bodyPost P fn (fun e w' => ∃ v J', e = .returned v ∧ Tr B w.heap.size J H w J' H' w' ∧ WRel B J' H' w' ∧ VRel J' H' r v) .normal a' w' := fun v hv hcase => by
                        obtain ⟨c, r1, r2⟩ := resT_ok R1 hrr hv
                        refine ⟨R1.df, c, r1, ?_⟩
                        rcases hcase with ⟨rfl, rfl⟩ | ⟨rfl, hfl, htr, rfl⟩
                        · exact ⟨c, J', rfl, t1, R1.wr, r2⟩
                        · obtain ⟨J'', c1, c2⟩ := cut_rel (m := { m with nr := m.nr || E.tr f }) hw t1 R1.wr hkb (by simp [htr])
                          exact ⟨c, J'', rfl, c1, c2, r2.flat hfl⟩
                      have hcase : ex ≠ .exit 0 ∨ True := .inr trivial
                      have fin2 : (∃ v, resT s rr = some v ∧ (r = v ∧ H' = s.H ∨ r = v ∧ flatScal v = true ∧ E.tr f = true ∧ H' = s.H.take H.length)) → ∀ e : Exit, (e = .normal ∨ e = .ret) → bodyPost P fn (fun e w' => ∃ v J', e = .returned v ∧ Tr B w.heap.size J H w J' H' w' ∧ WRel B J' H' w' ∧ VRel J' H' r v) e a' w' := fun ⟨v, h1, h2⟩ e he => by
                        have := fin v h1 h2
                        rcases he with rfl | rfl
                        · exact this
                        · exact this
                      have hres : (match resT s rr with
                          | some v => if E.tr f = true then (if flatScal v = true then some (v, s.H.take H.length) else none) else some (v, s.H)
                          | none => none) = some (r, H') → ∃ v, resT s rr = some v ∧ (r = v ∧ H' = s.H ∨ r = v ∧ flatScal v = true ∧ E.tr f = true ∧ H' = s.H.take H.length) := fun h => by
                        split at h
                        · rename_i v hv
                          refine ⟨v, hv, ?_⟩
                          split at h
                          · rename_i htr
                            split at h
                            · rename_i hfl
                              cases h
                              exact .inr ⟨rfl, hfl, htr, rfl⟩
                            · cases h
                          · cases h; exact .inl ⟨rfl, rfl⟩
                        · cases h
                      cases ex with
                      | normal => exact fin2 (hres h) _ (.inl rfl)
                      | ret => exact fin2 (hres h) _ (.inr rfl)
                      | exit id => cases h
                  · cases h
                · cases hcf
          · cases hcf

/-- The whole: a law that the machine answers with true. -/
theorem law_calls {J : Inj} {H H' : Hp} {w : World} {vs : List Value} {cs : Array Value} {k f : Nat} {b : Bool} (hmix : P.follows .mixedOrders = true) (hE : E.fns = fnsOf P hv) (hp : PrimSound P H.length E) (hpk : PrimKp E)
    (h : evF E k { wr := fun id => decide (H.length ≤ id), nr := false } f vs H = some (.bool b, H')) (hw : WRel H.length J H w) (hl : LRel J H vs cs.toList) :
    Calls P f cs w fun e w' => e = .returned (.bool b) ∧ RowKit.Below w.heap.size w w' := by
  obtain ⟨_, hc⟩ := sound hmix hE hp hpk k _ _ _ _ _ _ h (fun id hid => by simpa using hid) (Nat.le_refl _)
  refine (hc J w cs hw hl).mono fun e w' ⟨v, J', he, t1, t2, t3⟩ => ?_
  rw [t3.bool_inv] at he
  refine ⟨he, t1.os, t1.tape, t1.output, t1.grow, fun b hb => t1.frame b hb fun id l hl hB => ?_⟩
  rw [hw.dom id hB] at hl
  cases hl

end
end Go.Proofs.Ytdplmjlbkaipiaa.Ev
