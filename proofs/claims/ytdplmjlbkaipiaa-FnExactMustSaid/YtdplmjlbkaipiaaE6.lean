/- Each operation of the small machine is Go's own: addresses, loads, stores, what is made. -/
import Derived.Test.YtdplmjlbkaipiaaE5
namespace Go.Proofs.Ytdplmjlbkaipiaa.Ev
set_option linter.all false
open Go

section
variable {P : Program} {B N nt : Nat} {o : Oper} {J : Inj} {s : St} {a : Act} {w : World}

theorem VRel.vc {J : Inj} {H : Hp} {v c : Value} {vs : List Value} (h : VRel J H v c) (hv : Ev.vc v = some vs) : LRel J H vs c.cells.toList ∧ ∀ x ∈ vs, x.oneCell' = true := by
  have single : ∀ {v c : Value}, VRel J H v c → v.oneCell' = true → c.cells = #[c] → Ev.vc v = some [v] → Ev.vc v = some vs → LRel J H vs c.cells.toList ∧ ∀ x ∈ vs, x.oneCell' = true := fun h h1 h2 h3 h4 => by
    rw [h3] at h4; cases h4
    rw [h2]
    exact ⟨.cons h .nil, by simpa using h1⟩
  cases h with
  | agg cs ds hs h1 h =>
    simp only [Ev.vc] at hv; cases hv
    refine ⟨⟨by simpa [Value.cells] using hs, fun i x y hx hy => h i x y (by simpa using hx) (by simpa [Value.cells] using hy)⟩, fun x hx => ?_⟩
    obtain ⟨i, hi⟩ := List.getElem?_of_mem hx
    exact h1 i x (by simpa using hi)
  | tup cs ds hs h => simp [Ev.vc] at hv
  | int k n => exact single (.int k n) rfl rfl rfl hv
  | bool b => exact single (.bool b) rfl rfl rfl hv
  | str s => exact single (.str s) rfl rfl rfl hv
  | nptr => exact single .nptr rfl rfl rfl hv
  | nsl => exact single .nsl rfl rfl rfl hv
  | nfn => exact single .nfn rfl rfl rfl hv
  | ptr id off gen o a h hg hv2 => exact single (.ptr id off gen o a h hg hv2) rfl rfl rfl hv
  | sl id off e len cap o a ccap h hg hl hc hv2 => exact single (.sl id off e len cap o a ccap h hg hl hc hv2) rfl rfl rfl hv
  | fn f cs ds hs h => exact single (.fn f cs ds hs h) rfl rfl rfl hv

theorem opc (R : Rel B N nt J s a w) {x : Operand} {y : X} {vs : List Value} (hx : cx x = some y) (hv : exc s.ρ y = some vs) : LRel J s.H vs (a.eval x).cells.toList ∧ ∀ v ∈ vs, v.oneCell' = true := by
  unfold exc at hv
  split at hv
  · rename_i v hv2
    exact (opx R hx hv2).vc hv
  · cases hv

/-- What an address stands for. -/
def AdOk (J : Inj) (s : St) (own : Nat → Option Nat) (ad : Ad) (c : Value) : Prop :=
  match ad with
  | .hp id off gen => VRel J s.H (.pointer (some ⟨id, off, some gen⟩)) c
  | .box t g off => g < s.gn ∧ ∀ cs, s.ρ t = .bx g cs → ∃ b, own t = some b ∧ c = .pointer (some ⟨b, off, none⟩)

theorem adr_ok (R : Rel B N nt J s a w) {own : Nat → Option Nat} (ho : FRel N J s.H w s.ρ s.gn a.tmps own) {x : Operand} {y : X} {ad : Ad} (hx : cx x = some y) (ha : adr s.ρ y = some ad) : AdOk J s own ad (a.eval x) := by
  cases y with
  | t t =>
    have hxt : x = .tmp t := by cases x <;> simp [cx] at hx <;> simp_all
    subst hxt
    have hf := ho.ok t
    unfold FOk at hf
    simp only [adr] at ha
    split at ha
    · rename_i g cs hρ
      cases ha
      simp only [hρ] at hf
      obtain ⟨b, ds, e, h1, h2, _⟩ := hf
      exact ⟨ho.gbx t g cs hρ, fun cs' _ => ⟨b, h1, h2⟩⟩
    · rename_i t' g off hρ
      cases ha
      simp only [hρ] at hf
      exact ⟨ho.gvp t t' g off hρ, hf⟩
    · rename_i id off gen hρ
      cases ha
      simp only [hρ] at hf
      exact hf
    · cases ha
  | c v => simp [adr] at ha
  | f g => simp [adr] at ha

theorem live_box {ρ : Nat → FV} {t g off : Nat} (h : (Ad.box t g off).live ρ = true) : ∃ cs, ρ t = .bx g cs := by
  simp only [Ad.live] at h
  split at h
  · rename_i g' cs hρ
    have : g' = g := by simpa using h
    subst this
    exact ⟨cs, hρ⟩
  · cases h

theorem sim_ad {ad : Ad} {k : Nat} {c : Value} (R : Rel B N nt J s a w) (hd : ∀ d, o.dst = some d → d < nt) (hrun : ∀ p, c = .pointer (some p) → (execOp a.eval o).run P w = .ok (.value (.pointer (some (p.add k)))) w)
    (hc : ∀ own, FRel N J s.H w s.ρ s.gn a.tmps own → AdOk J s own ad c) (hp : ∃ p, c = .pointer (some p)) : Sim P B N nt o J s a w (ad.fv k) s := by
  obtain ⟨p, rfl⟩ := hp
  cases ad with
  | hp id off gen =>
    obtain ⟨own, ho⟩ := R.fr
    have h1 := hc own ho
    simp only [AdOk] at h1
    cases h1 with
    | ptr _ _ _ o2 a2 h hg hv =>
      refine .of_val R hd (hrun _ rfl) (.ptr id (off + k) gen o2 _ h hg fun e => ?_)
      obtain ⟨l, hl, ha⟩ := hv e
      refine ⟨l, hl, ?_⟩
      rw [ha, Addr.add_lit]
      congr 1
      omega
  | box t g off =>
    obtain ⟨own0, ho0⟩ := R.fr
    refine ⟨_, _, w, J, hrun p rfl, .inl rfl, .refl _ _ _ _ _, R.put_vp hd (hc own0 ho0).1 fun own ho cs hcs => ?_⟩
    obtain ⟨b, hb, he⟩ := (hc own ho).2 cs hcs
    cases he
    exact ⟨b, hb, by rw [Addr.add_lit]⟩

theorem ad_ptr (R : Rel B N nt J s a w) {x : Operand} {y : X} {ad : Ad} (hx : cx x = some y) (ha : adr s.ρ y = some ad) (hw : ∀ t g off, ad = .box t g off → ∃ cs, s.ρ t = .bx g cs) : ∃ p, a.eval x = .pointer (some p) := by
  obtain ⟨own, ho⟩ := R.fr
  have h := adr_ok R ho hx ha
  cases ad with
  | hp id off gen =>
    simp only [AdOk] at h
    generalize a.eval x = c at h
    cases h
    exact ⟨_, rfl⟩
  | box t g off =>
    obtain ⟨cs, hcs⟩ := hw t g off rfl
    obtain ⟨b, _, he⟩ := h.2 cs hcs
    exact ⟨_, he⟩

theorem sim_fadr {t : TypeId} {x1 : Operand} {p : X} {k : Nat} {fs : Array Field} {fd : Field} {i : TypeInfo} (hop : o.op = .fieldAddr t x1 k) (ht : P.underlying t = some (.struct fs)) (hk : fs[k]? = some fd) (hi : P.info? fd.type = some i) (hz : i.size ≠ 0)
    (h1 : cx x1 = some p) (R : Rel B N nt J s a w) (hd : ∀ d, o.dst = some d → d < nt) {f : FV} {s' : St} (h : fadrK s fd.offset p = some (f, s')) : Sim P B N nt o J s a w f s' := by
  unfold fadrK at h
  split at h
  · rename_i ad ha
    split at h
    · rename_i hlive
      cases h
      have hp := ad_ptr R h1 ha fun t g off e => by subst e; exact live_box hlive
      refine sim_ad R hd (c := a.eval x1) (fun q hq => ?_) (fun own ho => adr_ok R ho h1 ha) hp
      simp only [execOp, hop, hq]
      refine run_value ?_
      simp only [Instr.fieldAt, Sem.run_bind, run_underlying ht, Result.andThen_ok, hk, Instr.sureAddr, Sem.run_pure, fieldPlace, run_sizeOf' hi, Sem.run_ite, hz, if_false]
    · cases h
  · cases h

theorem sim_iadr {t e : TypeId} {x1 x2 : Operand} {p q : X} {i : TypeInfo} (hop : o.op = .indexAddr t x1 x2) (ht : P.underlying t = some (.slice e)) (hi : P.info? e = some i) (h1 : cx x1 = some p) (h2 : cx x2 = some q)
    (R : Rel B N nt J s a w) (hd : ∀ d, o.dst = some d → d < nt) {f : FV} {s' : St} (h : iadrK s i.size p q = some (f, s')) : Sim P B N nt o J s a w f s' := by
  unfold iadrK at h
  split at h
  · rename_i id off ez len cap k n e1 e2
    split at h
    · rename_i hc
      cases h
      obtain ⟨rfl, c1, c2⟩ := hc
      have hr := opx R h1 e1
      generalize hv : a.eval x1 = c at hr
      cases hr with
      | sl _ _ _ _ _ o2 a2 ccap g1 g2 g3 g4 g5 =>
        have hF : P.elem t = e := by simp [Program.elem, ht]
        refine .of_val R hd (v := .pointer (some (a2.add (n.toNat * i.size)))) ?_ (.ptr id _ _ o2 _ g1 g2 fun e => ?_)
        · simp only [execOp, hop, hv, (opx R h2 e2).int_inv]
          refine run_value ?_
          rw [run_indexAt_slice w t a2 len ccap k n (by rw [hF]; exact ht), if_pos ⟨c1, c2⟩, hF, run_sizeOf' hi]
          rfl
        · obtain ⟨l, hl, ha⟩ := g5 e
          refine ⟨l, hl, ?_⟩
          rcases ha with ⟨ha, _⟩ | ⟨ha, _⟩
          · omega
          · rw [ha, Addr.add_lit]
            congr 1
            omega
    · cases h
  · cases h

theorem sim_iadrA {t e : TypeId} {x1 x2 : Operand} {p q : X} {i : TypeInfo} {len : Nat} (hop : o.op = .indexAddr t x1 x2) (ht : P.underlying t = some (.array len e)) (hi : P.info? e = some i) (h1 : cx x1 = some p) (h2 : cx x2 = some q)
    (R : Rel B N nt J s a w) (hd : ∀ d, o.dst = some d → d < nt) {f : FV} {s' : St} (h : iadrAK s len i.size p q = some (f, s')) : Sim P B N nt o J s a w f s' := by
  unfold iadrAK at h
  split at h
  · rename_i ad k n ha e2
    split at h
    · rename_i hc
      cases h
      obtain ⟨hlive, c1, c2⟩ := hc
      have hp := ad_ptr R h1 ha fun t g off e => by subst e; exact live_box hlive
      have hF : P.elem t = e := by simp [Program.elem, ht]
      have hL : P.arrayLen t = len := by simp [Program.arrayLen, ht]
      refine sim_ad R hd (c := a.eval x1) (fun q hq => ?_) (fun own ho => adr_ok R ho h1 ha) hp
      simp only [execOp, hop, hq, (opx R h2 e2).int_inv]
      refine run_value ?_
      rw [run_indexAt_array w t q k n (by rw [hF, hL]; exact ht), hL, if_pos ⟨c1, c2⟩, hF, run_sizeOf' hi]
      rfl
    · cases h
  · cases h

/-- The cells at an address can be read. -/
theorem deref_ok (R : Rel B N nt J s a w) {own : Nat → Option Nat} (ho : FRel N J s.H w s.ρ s.gn a.tmps own) {ad : Ad} {c : Value} (hc : AdOk J s own ad c) {os : List Value} {off : Nat} (hr : deref s ad = some (os, off)) :
    ∃ b q ds e fr, c = .pointer (some ⟨b, q + off, none⟩) ∧ w.heap[b]? = some (.cells ds e fr) ∧ (∀ (i : Nat) (v : Value), os[i]? = some v → v.oneCell' = true ∧ ∃ d, ds[q + i]? = some d ∧ VRel J s.H v d) := by
  cases ad with
  | hp id off' gen =>
    simp only [AdOk] at hc
    simp only [deref] at hr
    split at hr
    · rename_i o1 h1
      split at hr
      · rename_i hg
        cases hr
        cases hc with
        | ptr _ _ _ o2 a2 g1 g2 g3 =>
          rw [h1] at g1; cases g1
          obtain ⟨l, hl, ha⟩ := g3 hg.symm
          obtain ⟨l', ds, e, lo, hi, b1, b2, b3, b4, b5, b6⟩ := R.wr.row id os h1
          rw [hl] at b1; cases b1
          exact ⟨l.b, l.sh, ds, e, _, by rw [ha], b2, b5⟩
      · cases hr
    · cases hr
  | box t g off' =>
    simp only [deref] at hr
    split at hr
    · rename_i g' cs hρ
      split at hr
      · rename_i hg
        cases hr
        subst hg
        obtain ⟨b, hb, he⟩ := hc.2 _ hρ
        have hf := ho.ok t
        unfold FOk at hf
        simp only [hρ] at hf
        obtain ⟨b', ds, e, f1, f2, f3, f4, f5⟩ := hf
        rw [hb] at f1; cases f1
        refine ⟨b, 0, ds, e, _, by rw [he, Nat.zero_add], f3, fun i v hv => ⟨f5 v (List.mem_of_getElem? hv), ?_⟩⟩
        obtain ⟨d, hd, hr⟩ := f4.get hv
        exact ⟨d, by simpa using hd, hr⟩
      · cases hr
    · cases hr

theorem run_loadVar_agg {t : TypeId} {i : TypeInfo} {d : TypeDesc} {b off n : Nat} {cs : List Value} (hi : P.info? t = some i) (hu : P.underlying t = some d) (hd : isAggD d = true) (hn : i.size = n) (hl : cs.length = n)
    (hc : ∀ j v, cs[j]? = some v → w.cell? ⟨b, off + j, none⟩ = some v) : (loadVar t ⟨b, off, none⟩).run P w = .ok (.agg cs.toArray) w := by
  have h := run_loadCells_list (P := P) w ⟨b, off, none⟩ cs fun j v hv => by rw [Addr.add_lit]; exact hc j v hv
  simp only [loadVar, Sem.run_bind, run_isAgg hu, Result.andThen_ok, hd, if_true, run_sizeOf' hi, hn, ← hl, h, Sem.run_pure]

theorem run_loadVar_one {t : TypeId} {d : TypeDesc} {p : Addr} {v : Value} (hu : P.underlying t = some d) (hd : isAggD d = false) (hc : w.cell? p = some v) : (loadVar t p).run P w = .ok v w := by
  simp only [loadVar, Sem.run_bind, run_isAgg hu, Result.andThen_ok, hd, Bool.false_eq_true, if_false, run_load, hc]

/-- A load, of the place and the value alone. -/
theorem load_ok (R : Rel B N nt J s a w) {ad : Ad} {c : Value} {t : TypeId} {n : Nat} {agg : Bool} {os : List Value} {off : Nat} (hi : tyI P t = some (n, agg)) (hc : ∀ own, FRel N J s.H w s.ρ s.gn a.tmps own → AdOk J s own ad c) (hr : deref s ad = some (os, off))
    {f : FV} {s' : St} (h : (if agg then (if off + n ≤ os.length then s.val (.agg ((os.drop off).take n).toArray) else none) else ofV s os[off]?) = some (f, s')) :
    ∃ p v fv, c = .pointer (some p) ∧ (loadVar t p).run P w = .ok v w ∧ f = .val fv ∧ s' = s ∧ VRel J s.H fv v := by
  obtain ⟨i, d, i1, i2, i3, i4, _⟩ := tyI_spec hi
  obtain ⟨own, ho⟩ := R.fr
  obtain ⟨b, q, ds, e, fr, rfl, hb, hv⟩ := deref_ok R ho (hc own ho) hr
  split at h
  · rename_i hag
    split at h
    · rename_i hle
      simp only [St.val] at h; cases h
      have hget : ∀ j v, ((ds.toList.drop (q + off)).take n)[j]? = some v → w.cell? ⟨b, q + off + j, none⟩ = some v := fun j v hj => by
        rw [List.getElem?_take] at hj
        split at hj
        · rw [List.getElem?_drop] at hj
          simp only [World.cell?, hb]
          simpa using hj
        · cases hj
      have hlen : ((ds.toList.drop (q + off)).take n).length = n := by
        have : n = 0 ∨ q + off + n ≤ ds.size := by
          rcases Nat.eq_zero_or_pos n with h0 | h0
          · exact .inl h0
          · right
            have hlt : off + (n - 1) < os.length := by omega
            obtain ⟨_, dd, hdd, _⟩ := hv (off + (n - 1)) os[off + (n - 1)] (List.getElem?_eq_getElem hlt)
            have := (Array.getElem?_eq_some_iff.1 hdd).1
            omega
        rw [List.length_take, List.length_drop, Array.length_toList]
        omega
      refine ⟨_, .agg ((ds.toList.drop (q + off)).take n).toArray, _, rfl, run_loadVar_agg i1 i2 (i3.trans hag) i4 hlen hget, rfl, rfl, .agg _ _ ?_ (fun j x hx => ?_) fun j x y hx hy => ?_⟩
      · rw [List.size_toArray, List.size_toArray, hlen]
        simp
        omega
      · rw [List.getElem?_toArray, List.getElem?_take] at hx
        split at hx
        · rw [List.getElem?_drop] at hx
          exact (hv _ x hx).1
        · cases hx
      · rw [List.getElem?_toArray, List.getElem?_take] at hx hy
        split at hx
        · rename_i hj
          rw [if_pos hj, List.getElem?_drop] at hy
          rw [List.getElem?_drop] at hx
          obtain ⟨_, dd, hdd, hrr⟩ := hv _ x hx
          have : dd = y := by
            rw [Array.getElem?_toList, show q + off + j = q + (off + j) by omega, hdd] at hy
            exact Option.some.inj hy
          subst this
          exact hrr
        · cases hx
    · cases h
  · rename_i hag
    cases hx : os[off]? with
    | none => simp [ofV, hx] at h
    | some v =>
      simp only [ofV, hx] at h; cases h
      obtain ⟨_, dd, hdd, hrr⟩ := hv off v hx
      exact ⟨_, dd, _, rfl, run_loadVar_one i2 (by simpa [hag] using i3) (by simp only [World.cell?, hb]; simpa using hdd), rfl, rfl, hrr⟩

theorem sim_load {t : TypeId} {x1 : Operand} {p : X} {n : Nat} {agg : Bool} (hop : o.op = .load t x1) (hi : tyI P t = some (n, agg)) (h1 : cx x1 = some p)
    (R : Rel B N nt J s a w) (hd : ∀ d, o.dst = some d → d < nt) {f : FV} {s' : St} (h : loadK s n agg p = some (f, s')) : Sim P B N nt o J s a w f s' := by
  unfold loadK at h
  split at h
  · rename_i ad ha
    split at h
    · rename_i os off hr
      obtain ⟨q, v, fv, hq, hrun, rfl, rfl, hv⟩ := load_ok (P := P) R hi (fun own ho => adr_ok R ho h1 ha) hr h
      refine .of_val R hd (v := v) ?_ hv
      simp only [execOp, hop, hq]
      refine run_value ?_
      simp only [Instr.loadAt, Instr.sureAddr, Sem.run_bind, Sem.run_pure, Result.andThen_ok, hrun]
    · cases h
  · cases h

theorem sim_store {m : Md} {t : TypeId} {x1 x2 : Operand} {p q : X} {n : Nat} {agg : Bool} (hm : ∀ id, m.wr id = true → B ≤ id) (hop : o.op = .store t x1 x2) (hdst : o.dst = none) (hi : tyI P t = some (n, agg)) (h1 : cx x1 = some p) (h2 : cx x2 = some q)
    (R : Rel B N nt J s a w) {f : FV} {s' : St} (h : storeK m s n p q = some (f, s')) : Sim P B N nt o J s a w f s' := by
  obtain ⟨i, d, i1, i2, i3, i4, _⟩ := tyI_spec hi
  unfold storeK at h
  split at h
  · rename_i ad vs ha hvs
    obtain ⟨hc1, hc2⟩ := opc R h2 hvs
    split at h
    · rename_i os off hr
      split at h
      · rename_i hn
        have hsize : (a.eval x2).cells.size = i.size := by
          rw [← Array.length_toList, ← hc1.1, hn.1, i4]
        have hexec : ∀ (b q' : Nat) (w' : World), a.eval x1 = .pointer (some ⟨b, q', none⟩) → (storeCells ⟨b, q', none⟩ (a.eval x2).cells.toList).run P w = .ok () w' → (execOp a.eval o).run P w = .ok .skip w' := fun b q' w' e1 e2 => by
          simp only [execOp, hop, e1]
          refine run_unit ?_
          simp only [Instr.storeAt, Instr.sureAddr, Sem.run_bind, Sem.run_pure, Result.andThen_ok, storeVar, run_sizeOf' i1, hsize, ne_eq, not_true_eq_false, if_false, e2]
        obtain ⟨own, ho⟩ := R.fr
        have hado := adr_ok R ho h1 ha
        cases ad with
        | hp id off' gen =>
          dsimp only at h
          split at h
          · rename_i hw
            cases h
            simp only [AdOk] at hado
            simp only [deref] at hr
            split at hr
            · rename_i o1 g0
              split at hr
              · rename_i hg
                cases hr
                generalize hx1 : a.eval x1 = c at hado
                cases hado with
                | ptr _ _ _ o2 a2 g1 g2 g3 =>
                  rw [g0] at g1; cases g1
                  obtain ⟨l, hl, rfl⟩ := g3 hg.symm
                  obtain ⟨l', ds, e, lo, hi', b1, b2, b3, b4, b5, b6⟩ := R.wr.row id os g0
                  rw [hl] at b1; cases b1
                  obtain ⟨r1, r2, r3⟩ := row_store (P := P) R.wr (i := off) (o' := spl os off vs) g0 hl (hm id hw.1) hc1 hc2 (by omega) (.inl ⟨rfl, by omega⟩)
                  refine ⟨_, undef, _, J, hexec _ _ _ hx1 r1, .inr ⟨rfl, rfl⟩, r2.mono R.hN, ?_⟩
                  rw [hdst]
                  exact R.move r2 r3
              · cases hr
            · cases hr
          · cases h
        | box t' g off' =>
          dsimp only at h
          cases h
          simp only [deref] at hr
          split at hr
          · rename_i g' cs hρ
            split at hr
            · rename_i hg
              cases hr
              subst hg
              obtain ⟨b, hb, he⟩ := hado.2 _ hρ
              obtain ⟨r1, r2, r3⟩ := box_store (P := P) R (i := off) hρ hc1 hc2 (by omega) ho hb
              refine ⟨_, undef, _, J, hexec _ _ _ he r1, .inr ⟨rfl, rfl⟩, r2, ?_⟩
              rw [hdst]
              exact r3
            · cases hr
          · cases hr
      · cases h
    · cases h
  · cases h

theorem zeroI_spec {t : TypeId} {z : List Value} (h : zeroI P t = some z) : ∃ i zv, P.info? t = some i ∧ i.zero = some zv ∧ zv.cells.toList = z ∧ z.length = i.size ∧ z.all scal = true ∧ 0 < i.size := by
  unfold zeroI at h
  split at h
  · rename_i i hi
    split at h
    · rename_i zv hz
      split at h
      · rename_i hc
        cases h
        refine ⟨i, zv, hi, hz, ?_, hc.1, hc.2.1, hc.2.2⟩
        cases zv <;> rfl
      · cases h
    · cases h
  · cases h

theorem LRel.zero {J : Inj} {H : Hp} {z : List Value} (h : z.all Ev.scal = true) : LRel J H z z := LRel.scal h
theorem one_zero {z : List Value} (h : z.all Ev.scal = true) : ∀ v ∈ z, v.oneCell' = true := fun v hv => scal_one (List.all_eq_true.1 h v hv)

theorem run_newVar {t : TypeId} {v : Value} : (newVar t v).run P w = .ok ⟨w.heap.size, 0, none⟩ (w.alloc (.cells v.cells t)) := by
  simp [newVar, newRow]

theorem sim_newV {t : TypeId} {z : List Value} {d : Nat} (hop : o.op = .alloc t) (hdst : o.dst = some d) (hz : zeroI P t = some z) (R : Rel B N nt J s a w) (hd : d < nt) {f : FV} {s' : St} (h : newVK s z = some (f, s')) : Sim P B N nt o J s a w f s' := by
  simp only [newVK] at h; cases h
  obtain ⟨i, zv, z1, z2, z3, z4, z5, z6⟩ := zeroI_spec hz
  refine ⟨_, .pointer (some ⟨w.heap.size, 0, none⟩), w.alloc (.cells zv.cells t), J, ?_, .inl rfl, (Tr.alloc J s.H w _).mono R.hN, ?_⟩
  · simp only [execOp, hop]
    refine run_value ?_
    simp [Instr.alloc, zeroValue, typeInfo, z1, z2, run_newVar]
  · rw [hdst]
    exact R.put_bx hd t (by rw [z3]; exact LRel.scal z5) (one_zero z5)

theorem sim_newrow {t : TypeId} {cs : List Value} {ds : Array Value} {v : Value} {f : Value} {lo hi : Nat} {w0 : World} (R0 : Rel B N nt J s a w0) (hB : B ≤ s.H.length) (ht0 : Tr B N J s.H w J s.H w0) (hd : ∀ d, o.dst = some d → d < nt)
    (hrun : (execOp a.eval o).run P w = .ok (.value v) (w0.alloc (.cells ds t (lo, hi)))) (hl : cs.length ≤ ds.size) (hv : ∀ (i : Nat) (x y : Value), cs[i]? = some x → ds[i]? = some y → VRel J s.H x y)
    (h1 : ∀ v ∈ cs, v.oneCell' = true) (hfz : ∀ i, i < ds.size → ¬ (lo ≤ i ∧ i < hi)) (hf : ∀ J' , J' s.H.length = some ⟨w0.heap.size, 0, ds.size⟩ → VRel J' (s.H ++ [cs]) f v) :
    Sim P B N nt o J s a w (.val f) { s with H := s.H ++ [cs] } := by
  obtain ⟨t1, t2⟩ := row_new R0.wr hB t lo hi hl hv h1 hfz
  have R1 := R0.move t1 t2
  exact ⟨_, v, _, _, hrun, .inl rfl, ht0.trans (t1.mono R0.hN), R1.put_val (s := { s with H := s.H ++ [cs] }) hd (hf _ (by simp [Inj.add]))⟩

theorem sim_newO {t : TypeId} {z : List Value} (hop : o.op = .alloc t) (hz : zeroI P t = some z) (R : Rel B N nt J s a w) (hB : B ≤ s.H.length) (hd : ∀ d, o.dst = some d → d < nt) {f : FV} {s' : St} (h : newOK s z = some (f, s')) : Sim P B N nt o J s a w f s' := by
  simp only [newOK] at h; cases h
  obtain ⟨i, zv, z1, z2, z3, z4, z5, z6⟩ := zeroI_spec hz
  have hzs : zv.cells.size = z.length := by rw [← z3]; simp
  refine sim_newrow (t := t) (ds := zv.cells) (lo := 0) (hi := 0) (v := .pointer (some ⟨w.heap.size, 0, none⟩)) R hB (.refl _ _ _ _ _) hd ?_ (by omega) (fun i x y hx hy => ?_) (one_zero z5) (fun i _ => by omega) fun J' hJ => ?_
  · simp only [execOp, hop]
    refine run_value ?_
    simp [Instr.alloc, zeroValue, typeInfo, z1, z2, run_newVar]
  · have : x = y := by
      rw [← Array.getElem?_toList, z3, hx] at hy
      exact Option.some.inj hy
    subst this
    exact .scal (List.all_eq_true.1 z5 x (List.mem_of_getElem? hx))
  · exact .ptr _ _ _ z _ (by simp) (Nat.le_refl _) fun _ => ⟨_, hJ, rfl⟩

theorem sim_boxV {t : TypeId} {x1 : Operand} {p : X} {d : Nat} (hop : o.op = .box t x1) (hdst : o.dst = some d) (h1 : cx x1 = some p) (R : Rel B N nt J s a w) (hd : d < nt) {f : FV} {s' : St} (h : boxVK s p = some (f, s')) : Sim P B N nt o J s a w f s' := by
  unfold boxVK at h
  split at h
  · rename_i vs hvs
    simp only [newVK] at h; cases h
    obtain ⟨c1, c2⟩ := opc R h1 hvs
    refine ⟨_, .pointer (some ⟨w.heap.size, 0, none⟩), w.alloc (.cells (a.eval x1).cells t), J, ?_, .inl rfl, (Tr.alloc J s.H w _).mono R.hN, ?_⟩
    · simp only [execOp, hop]
      refine run_value ?_
      simp [Instr.box, run_newVar]
    · rw [hdst]
      exact R.put_bx hd t c1 c2
  · cases h

theorem sim_boxO {t : TypeId} {x1 : Operand} {p : X} (hop : o.op = .box t x1) (h1 : cx x1 = some p) (R : Rel B N nt J s a w) (hB : B ≤ s.H.length) (hd : ∀ d, o.dst = some d → d < nt) {f : FV} {s' : St} (h : boxOK s p = some (f, s')) : Sim P B N nt o J s a w f s' := by
  unfold boxOK at h
  split at h
  · rename_i vs hvs
    simp only [newOK] at h; cases h
    obtain ⟨c1, c2⟩ := opc R h1 hvs
    have hl := c1.1
    refine sim_newrow (t := t) (ds := (a.eval x1).cells) (lo := 0) (hi := 0) (v := .pointer (some ⟨w.heap.size, 0, none⟩)) R hB (.refl _ _ _ _ _) hd ?_ (by rw [hl, Array.length_toList]; exact Nat.le_refl _) (fun i x y hx hy => c1.2 i x y hx (by simpa using hy)) c2 (fun i _ => by omega) fun J' hJ => ?_
    · simp only [execOp, hop]
      refine run_value ?_
      simp [Instr.box, run_newVar]
    · exact .ptr _ _ _ vs _ (by simp) (Nat.le_refl _) fun _ => ⟨_, hJ, rfl⟩
  · cases h

end
end Go.Proofs.Ytdplmjlbkaipiaa.Ev
