/- What an operation, and a call, leaves as it was. -/
import Derived.Test.YtdplmjlbkaipiaaE10
namespace Go.Proofs.Ytdplmjlbkaipiaa.Ev
set_option linter.all false
open Go

/-- What may become of the rows that were there. -/
structure Kp (m : Md) (H H' : Hp) : Prop where
  len : H.length ≤ H'.length
  wr : ∀ id, m.wr id = false → id < H.length → H'[id]? = H[id]?
  nr : m.nr = true → ∀ (id : Nat) (o' : List Value), id < H.length → H'[id]? = some o' → ∃ o, H[id]? = some o ∧ ∀ v ∈ o', scal v = true ∨ v ∈ o

theorem Kp.refl (m : Md) (H : Hp) : Kp m H H := ⟨Nat.le_refl _, fun _ _ _ => rfl, fun _ _ o' _ h => ⟨o', h, fun _ hv => .inr hv⟩⟩

theorem Kp.trans {m : Md} {H H' H'' : Hp} (h : Kp m H H') (k : Kp m H' H'') : Kp m H H'' := by
  refine ⟨Nat.le_trans h.len k.len, fun id h1 h2 => (k.wr id h1 (Nat.lt_of_lt_of_le h2 h.len)).trans (h.wr id h1 h2), fun hn id o'' hl ho => ?_⟩
  obtain ⟨o', ho', h1⟩ := k.nr hn id o'' (Nat.lt_of_lt_of_le hl h.len) ho
  obtain ⟨o, ho1, h2⟩ := h.nr hn id o' hl ho'
  refine ⟨o, ho1, fun v hv => ?_⟩
  rcases h1 v hv with h3 | h3
  · exact .inl h3
  · exact h2 v h3

theorem Kp.push (m : Md) (H : Hp) (x : List Value) : Kp m H (H ++ [x]) := by
  refine ⟨by simp, fun id _ h => List.getElem?_append_left h, fun _ id o' hl ho => ?_⟩
  rw [List.getElem?_append_left hl] at ho
  exact ⟨o', ho, fun _ hv => .inr hv⟩

theorem mem_spl : ∀ {vs o : List Value} {i : Nat} {v : Value}, v ∈ spl o i vs → v ∈ vs ∨ v ∈ o := fun {vs o i v} h => by
  obtain ⟨j, hj⟩ := List.getElem?_of_mem h
  rw [spl_get] at hj
  split at hj
  · split at hj
    · exact .inl (List.mem_of_getElem? hj)
    · cases hj
  · exact .inr (List.mem_of_getElem? hj)

theorem Kp.set {m : Md} {H : Hp} {id : Nat} {o o' : List Value} (ho : H[id]? = some o) (hw : m.wr id = true) (hn : m.nr = true → ∀ v ∈ o', scal v = true ∨ v ∈ o) : Kp m H (H.set id o') := by
  refine ⟨by simp, fun id2 h1 h2 => ?_, fun h id2 o2 hl ho2 => ?_⟩
  · rw [List.getElem?_set_ne]
    intro e
    rw [e, h1] at hw
    cases hw
  · by_cases e : id = id2
    · subst e
      have : o' = o2 := by simpa [hl] using ho2
      subst this
      exact ⟨o, ho, hn h⟩
    · rw [List.getElem?_set_ne e] at ho2
      exact ⟨o2, ho2, fun _ hv => .inr hv⟩

theorem Kp.set_spl {m : Md} {H : Hp} {id i : Nat} {o vs : List Value} (ho : H[id]? = some o) (hw : m.wr id = true) (hn : m.nr = true → vs.all scal = true) : Kp m H (H.set id (spl o i vs)) :=
  .set ho hw fun h v hv => by
    rcases mem_spl hv with h1 | h1
    · exact .inl (List.all_eq_true.1 (hn h) v h1)
    · exact .inr h1

theorem stepK_kp {m : Md} {s s' : St} {k : CK} {f : FV} (h : stepK m s k = some (f, s')) : Kp m s.H s'.H := by
  have same : s'.H = s.H → Kp m s.H s'.H := fun e => e ▸ Kp.refl m s.H
  have ofv : ∀ {x : Option Value}, ofV s x = some (f, s') → Kp m s.H s'.H := fun {x} e => by
    cases x <;> simp only [ofV] at e <;> cases e
    exact .refl _ _
  cases k with
  | mov x => simp only [stepK, movK] at h; split at h <;> cases h; exact .refl _ _
  | pick c a b => simp only [stepK, pickK] at h; split at h <;> (try simp only [St.val] at h) <;> cases h; exact .refl _ _
  | bin op x y => simp only [stepK, binK] at h; split at h; exact ofv h; cases h
  | beq neg x y => simp only [stepK, beqK] at h; split at h <;> (try simp only [St.val] at h) <;> cases h; exact .refl _ _
  | aeq neg ks x y =>
    simp only [stepK, aeqK] at h
    split at h
    · split at h <;> (try simp only [St.val] at h) <;> cases h; exact .refl _ _
    · cases h
  | un op x => simp only [stepK, unK] at h; split at h; exact ofv h; cases h
  | toInt k x => simp only [stepK, toIntK] at h; split at h <;> (try simp only [St.val] at h) <;> cases h; exact .refl _ _
  | str x => simp only [stepK, strK] at h; split at h <;> (try simp only [St.val] at h) <;> cases h; exact .refl _ _
  | s2b e x => simp only [stepK, s2bK] at h; split at h <;> cases h; exact .push _ _ _
  | b2s x =>
    simp only [stepK, b2sK] at h
    split at h
    · split at h <;> (try simp only [St.val] at h) <;> cases h; exact .refl _ _
    · cases h
  | fld off n agg x =>
    simp only [stepK, fldK] at h
    split at h
    · split at h
      · simp only [St.val] at h; cases h; exact .refl _ _
      · exact ofv h
    · cases h
  | idx x i =>
    simp only [stepK, idxK] at h
    split at h
    · split at h
      · split at h <;> (try simp only [St.val] at h) <;> cases h; exact .refl _ _
      · cases h
    · cases h
  | build zero parts =>
    simp only [stepK, buildK] at h
    split at h
    · split at h <;> (try simp only [St.val] at h) <;> cases h; exact .refl _ _
    · cases h
  | ext x i => simp only [stepK, extK] at h; split at h; exact ofv h; cases h
  | fadr off x =>
    simp only [stepK, fadrK] at h
    split at h
    · split at h <;> cases h; exact .refl _ _
    · cases h
  | iadr esz x i =>
    simp only [stepK, iadrK] at h
    split at h
    · split at h <;> cases h; exact .refl _ _
    · cases h
  | iadrA len esz x i =>
    simp only [stepK, iadrAK] at h
    split at h
    · split at h <;> cases h; exact .refl _ _
    · cases h
  | load n agg x =>
    simp only [stepK, loadK] at h
    split at h
    · split at h
      · split at h
        · split at h <;> (try simp only [St.val] at h) <;> cases h; exact .refl _ _
        · exact ofv h
      · cases h
    · cases h
  | store n x v =>
    simp only [stepK, storeK] at h
    split at h
    · split at h
      · rename_i hr
        split at h
        · split at h
          · split at h
            · rename_i hw
              cases h
              simp only [deref] at hr
              split at hr
              · rename_i g0
                split at hr
                · cases hr; exact .set_spl g0 hw.1 hw.2
                · cases hr
              · cases hr
            · cases h
          · cases h; exact .refl _ _
        · cases h
      · cases h
    · cases h
  | newV zero => simp only [stepK, newVK] at h; cases h; exact .refl _ _
  | newO zero => simp only [stepK, newOK] at h; cases h; exact .push _ _ _
  | boxV x => simp only [stepK, boxVK, newVK] at h; split at h <;> cases h; exact .refl _ _
  | boxO x => simp only [stepK, boxOK, newOK] at h; split at h <;> cases h; exact .push _ _ _
  | mkV len esz zero parts => simp only [stepK, mkVK] at h; split at h <;> cases h; exact .refl _ _
  | mkO len esz zero parts => simp only [stepK, mkOK] at h; split at h <;> cases h; exact .push _ _ _
  | makeS esz bytes zero l c =>
    simp only [stepK, makeSK] at h
    split at h
    · split at h <;> cases h; exact .push _ _ _
    · cases h
  | slc esz x lo hi =>
    simp only [stepK, slcK] at h
    split at h
    · split at h
      · split at h <;> (try simp only [St.val] at h) <;> cases h; exact .refl _ _
      · cases h
    · split at h
      · split at h <;> (try simp only [St.val] at h) <;> cases h; exact .refl _ _
      · cases h
    · cases h
  | slcS x lo hi =>
    simp only [stepK, slcSK] at h
    split at h
    · split at h
      · split at h <;> (try simp only [St.val] at h) <;> cases h; exact .refl _ _
      · cases h
    · cases h
  | lenS x => simp only [stepK, lenSK] at h; split at h <;> (try simp only [St.val] at h) <;> cases h <;> exact .refl _ _
  | lenT x => simp only [stepK, lenTK] at h; split at h <;> (try simp only [St.val] at h) <;> cases h; exact .refl _ _
  | mx x y => simp only [stepK, mxK] at h; split at h <;> (try simp only [St.val] at h) <;> cases h; exact .refl _ _
  | mn x y => simp only [stepK, mnK] at h; split at h <;> (try simp only [St.val] at h) <;> cases h; exact .refl _ _
  | app esz bytes x y =>
    simp only [stepK, appK] at h
    split at h
    · split at h
      · split at h <;> (try simp only [St.val] at h) <;> cases h <;> exact .refl _ _
      · split at h
        · split at h <;> cases h; exact .push _ _ _
        · split at h
          · rename_i g0
            split at h
            · rename_i hc
              split at h
              · cases h; exact .set_spl g0 hc.2.2.1 hc.2.2.2
              · split at h
                · cases h
                  refine .set g0 hc.2.2.1 fun hn v hv => ?_
                  rcases List.mem_append.1 hv with h1 | h1
                  · exact .inr (List.mem_of_mem_take h1)
                  · exact .inl (List.all_eq_true.1 (hc.2.2.2 hn) v h1)
                · cases h
            · cases h
          · cases h
        · cases h
    · cases h
  | cpy esz x y =>
    simp only [stepK, cpyK] at h
    split at h
    · simp only [St.val] at h; cases h; exact .refl _ _
    · split at h
      · rename_i g0
        split at h
        · rename_i hc
          cases h
          refine .set_spl g0 hc.2.2.1 fun hn => ?_
          rw [List.all_eq_true]
          intro v hv
          exact List.all_eq_true.1 (hc.2.2.2.1 hn) v (List.mem_of_mem_take hv)
        · cases h
      · cases h
    · cases h
  | clr esz zero x =>
    simp only [stepK, clrK] at h
    split at h
    · simp only [St.val] at h; cases h; exact .refl _ _
    · split at h
      · rename_i g0
        split at h
        · rename_i hc
          cases h
          exact .set_spl g0 hc.2.2.1 fun _ => zeros_scal hc.2.2.2.1
        · cases h
      · cases h
    · cases h
  | call g args => simp [stepK] at h
  | callV x args => simp [stepK] at h
  | fn g caps => simp only [stepK, fnK] at h; split at h <;> (try simp only [St.val] at h) <;> cases h; exact .refl _ _
  | nilc x => simp only [stepK, nilcK] at h; split at h <;> (try simp only [St.val] at h) <;> cases h <;> exact .refl _ _

/-- What is asked of functions that are told by themselves. -/
def PrimKp (E : Env) : Prop := ∀ f p, E.prim f = some p → ∀ m vs H r H', p m vs H = some (r, H') → Kp m H H'

theorem drawn_kp {m : Md} {pw : Nat → Bool} {H H' : Hp} {f : Nat} {vs : List Value} (h : Kp (m.drawn pw H f vs) H H') : Kp m H H' :=
  ⟨h.len, fun id h1 h2 => h.wr id (by simp [Md.drawn, h1]; omega) h2, h.nr⟩

abbrev Evf := Md → Nat → List Value → Hp → Option (Value × Hp)
def EvKp (ev : Evf) : Prop := ∀ m f vs H r H', ev m f vs H = some (r, H') → Kp m H H'

theorem stepC_kp {E : Env} {m : Md} {draw : Bool} {ev : Evf} (hev : EvKp ev) {s s' : St} {k : CK} {f : FV} (h : stepC E m draw ev s k = some (f, s')) : Kp m s.H s'.H := by
  unfold stepC at h
  split at h
  · split at h
    · rename_i r H he
      cases h
      cases draw with
      | false => exact hev _ _ _ _ _ _ he
      | true => exact drawn_kp (hev _ _ _ _ _ _ he)
    · cases h
  · exact stepK_kp h

theorem stepO_kp {E : Env} {m : Md} {draw : Bool} {ev : Evf} (hev : EvKp ev) {s s' : St} {o : CO} (h : stepO E m draw ev s o = some s') : Kp m s.H s'.H := by
  unfold stepO at h
  split at h
  · split at h
    · rename_i v s1 hs
      cases h
      show Kp m s.H s1.H
      exact stepC_kp hev hs
    · cases h
  · cases h; exact .refl _ _
  · cases h

theorem runR_kp {E : Env} {m : Md} {draw : Bool} {ev : Evf} (hev : EvKp ev) : ∀ {ops : List CO} {s s' : St}, runR E m draw ev ops s = some s' → Kp m s.H s'.H
  | [], s, s', h => by simp only [runR] at h; cases h; exact .refl _ _
  | o :: os, s, s', h => by
    simp only [runR] at h
    split at h
    · rename_i s1 hs
      exact (stepO_kp hev hs).trans (runR_kp hev h)
    · cases h

theorem ev_kp {E : Env} (hp : PrimKp E) : ∀ k, EvKp (evF E k) ∧ ∀ m c s e s', evC E k m c s = some (e, s') → Kp m s.H s'.H
  | 0 => ⟨fun m f vs H r H' h => by simp [evF] at h, fun m c s e s' h => by simp [evC] at h⟩
  | k + 1 => by
    obtain ⟨i1, i2⟩ := ev_kp hp k
    refine ⟨fun m f vs H r H' h => ?_, fun m c s e s' h => ?_⟩
    · simp only [evF] at h
      split at h
      · rename_i p hpf
        exact hp f p hpf m vs H r H' h
      · split at h
        · cases h
        · split at h
          · split at h
            · cases h
            · rename_i e s hne he
              have hk := i2 _ _ _ _ _ he
              have hk' : Kp m H s.H := ⟨hk.len, hk.wr, fun hn => hk.nr (by simp [hn])⟩
              split at h
              · rename_i v hv
                split at h
                · split at h
                  · cases h
                    refine ⟨?_, fun id h1 h2 => ?_, fun hn id o' hl ho => ?_⟩
                    · have := hk.len
                      simp only at this
                      rw [List.length_take]
                      omega
                    · rw [List.getElem?_take, if_pos h2]; exact hk'.wr id h1 h2
                    · rw [List.getElem?_take, if_pos hl] at ho; exact hk'.nr hn id o' hl ho
                  · cases h
                · cases h; exact hk'
              · cases h
            · cases h
          · cases h
    · cases c with
      | skip => simp only [evC] at h; cases h; exact .refl _ _
      | exit id => simp only [evC] at h; cases h; exact .refl _ _
      | ret => simp only [evC] at h; cases h; exact .refl _ _
      | reg draw ops =>
        simp only [evC] at h
        split at h
        · cases h
        · split at h
          · rename_i s1 hs
            cases h
            exact runR_kp i1 hs
          · cases h
      | seq a b =>
        simp only [evC] at h
        split at h
        · rename_i s1 hs
          exact (i2 _ _ _ _ _ hs).trans (i2 _ _ _ _ _ h)
        · exact i2 _ _ _ _ _ h
      | cond c a b =>
        simp only [evC] at h
        split at h
        · exact i2 _ _ _ _ _ h
        · exact i2 _ _ _ _ _ h
        · cases h
      | block id c =>
        simp only [evC] at h
        split at h
        · rename_i j s1 hs
          split at h <;> cases h <;> exact i2 _ _ _ _ _ hs
        · exact i2 _ _ _ _ _ h
      | loop c =>
        simp only [evC] at h
        split at h
        · rename_i s1 hs
          exact (i2 _ _ _ _ _ hs).trans (i2 _ _ _ _ _ h)
        · exact i2 _ _ _ _ _ h

end Go.Proofs.Ytdplmjlbkaipiaa.Ev
