/- What the small machine answers, Go answers: regions with an open order, code, functions. -/
import Derived.Test.YtdplmjlbkaipiaaE14
namespace Go.Proofs.Ytdplmjlbkaipiaa.Ev
set_option linter.all false
open Go

section
variable {P : Program} {B N nt : Nat} {E : Env} {m : Md} {ev : Evf} {hv : Nat → Bool}

theorem edgeOk_binds (e : Edge) : edgeOk e = Region.binds .any e := by
  unfold edgeOk Region.binds
  cases e.ground <;> rfl

theorem pres_acc : ∀ (os : List Oper) (acc : List (List Nat)), ∃ r, pres os acc = acc ++ r
  | [], acc => ⟨[], by simp [pres]⟩
  | o :: os, acc => by
    obtain ⟨r, hr⟩ := pres_acc os (acc ++ [((o.after.toList.filter edgeOk).flatMap fun e => e.on :: acc.getD e.on []).eraseDups])
    exact ⟨_, by rw [pres, hr, List.append_assoc]⟩

theorem mem_eraseDups' {l : List Nat} {x : Nat} (h : x ∈ l.eraseDups) : x ∈ l := by simpa using h

theorem pres_spec : ∀ (os : List Oper) (acc : List (List Nat)) (j : Nat) (o : Oper), os[j]? = some o → ∀ p ∈ (pres os acc).getD (acc.length + j) [], ∃ e ∈ o.after, edgeOk e = true ∧ (p = e.on ∨ p ∈ (pres os acc).getD e.on [])
  | [], acc, j, o, h, p, hp => by simp at h
  | o :: os, acc, 0, o', h, p, hp => by
    simp at h; subst h
    obtain ⟨r, hr⟩ := pres_acc os (acc ++ [((o.after.toList.filter edgeOk).flatMap fun e => e.on :: acc.getD e.on []).eraseDups])
    rw [pres, hr] at hp ⊢
    have h1 : (acc ++ [((o.after.toList.filter edgeOk).flatMap fun e => e.on :: acc.getD e.on []).eraseDups] ++ r).getD (acc.length + 0) [] = ((o.after.toList.filter edgeOk).flatMap fun e => e.on :: acc.getD e.on []).eraseDups := by
      rw [List.append_assoc, List.getD_eq_getElem?_getD, List.getElem?_append_right (by omega)]
      simp
    rw [h1] at hp
    obtain ⟨e, he, hpe⟩ := List.mem_flatMap.1 (mem_eraseDups' hp)
    obtain ⟨he1, he2⟩ := List.mem_filter.1 he
    refine ⟨e, by simpa using he1, he2, ?_⟩
    rcases List.mem_cons.1 hpe with h2 | h2
    · exact .inl h2
    · right
      rw [List.append_assoc, List.getD_eq_getElem?_getD]
      rw [List.getD_eq_getElem?_getD] at h2
      have hlt : e.on < acc.length := by
        rcases Nat.lt_or_ge e.on acc.length with h3 | h3
        · exact h3
        · rw [List.getElem?_eq_none h3] at h2; simp at h2
      rw [List.getElem?_append_left hlt]
      exact h2
  | o :: os, acc, j + 1, o', h, p, hp => by
    rw [pres] at hp ⊢
    have := pres_spec os (acc ++ [((o.after.toList.filter edgeOk).flatMap fun e => e.on :: acc.getD e.on []).eraseDups]) j o' (by simpa using h) p (by
      rw [List.length_append, List.length_singleton, show acc.length + 1 + j = acc.length + (j + 1) by omega]
      exact hp)
    exact this

def left (cs : List CO) (listed : Array Bool) : List CO := cs.filter fun c => !listed.getD c.ix true

theorem getD_set (l : Array Bool) (i j : Nat) (hi : i < l.size) : (l.setIfInBounds i true).getD j true = if j = i then true else l.getD j true := by
  simp only [Array.getD_eq_getD_getElem?]
  by_cases h : j = i
  · subst h; simp [hi]
  · rw [Array.getElem?_setIfInBounds_ne (Ne.symm h), if_neg h]

theorem getD_both {l : Array Bool} {j : Nat} (hj : j < l.size) : l.getD j false = l.getD j true := by simp [Array.getD, hj]

theorem draw_sim {ops : Array Oper} {Q : Exit → Act → World → Prop} {cs : List CO} (hcs : compOs P hv nt ops true (pres ops.toList []) 0 ops.toList = some cs) (hev : SoundEv P B ev) (hkp : EvKp ev) (hm : ∀ id, m.wr id = true → B ≤ id) :
    ∀ (fuel : Nat) (listed : Array Bool) {J : Inj} {s t : St} {a : Act} {w : World}, listed.size = ops.size → (∀ c ∈ cs, listed.getD c.ix true = true → ∀ p ∈ c.pre, listed.getD p true = true) → (left cs listed).length ≤ fuel →
      B ≤ s.H.length → Rel B N nt J s a w → runR E m true ev (left cs listed) s = some t → allApart (infR E m ev (left cs listed) s) = true →
      (∀ J' a' w', Tr B N J s.H w J' t.H w' → Rel B N nt J' t a' w' → Q .normal a' w') → wpAny P .any ops Q fuel listed a w := by
  obtain ⟨l1, l2⟩ := compOs_get hcs
  have hlen : cs.length = ops.size := by simpa using l1
  have hix : ∀ (j : Nat) (c : CO), cs[j]? = some c → c.ix = j := fun j c hc => by
    have hj := (List.getElem?_eq_some_iff.1 hc).1
    obtain ⟨c', g1, g2⟩ := l2 j ops[j] (by simp)
    rw [hc] at g1; cases g1
    have := (compO_spec g2).2.2.2.1
    omega
  have hop : ∀ (j : Nat) (o : Oper), ops[j]? = some o → ∃ c ∈ cs, c.ix = j ∧ compO P hv nt ops true (pres ops.toList []) j o = some c := fun j o ho => by
    obtain ⟨c, g1, g2⟩ := l2 j o (by simpa using ho)
    rw [Nat.zero_add] at g2
    exact ⟨c, List.mem_of_getElem? g1, hix j c g1, g2⟩
  have hback : ∀ c ∈ cs, ∃ o, ops[c.ix]? = some o ∧ compO P hv nt ops true (pres ops.toList []) c.ix o = some c := fun c hc => by
    obtain ⟨j, hj⟩ := List.getElem?_of_mem hc
    have hjl := (List.getElem?_eq_some_iff.1 hj).1
    obtain ⟨c', g1, g2⟩ := l2 j ops[j] (by simp)
    rw [hj] at g1; cases g1
    rw [Nat.zero_add] at g2
    rw [hix j c hj]
    exact ⟨_, Array.getElem?_eq_getElem (by omega), g2⟩
  have hsort : cs.Pairwise fun x y => x.ix < y.ix := by
    rw [List.pairwise_iff_getElem]
    intro i j hi hj hij
    rw [hix i _ (List.getElem?_eq_getElem hi), hix j _ (List.getElem?_eq_getElem hj)]
    exact hij
  have hon : ∀ {c : CO} {o : Oper} {j : Nat}, compO P hv nt ops true (pres ops.toList []) j o = some c → ∀ e ∈ o.after, Region.binds .any e = true → e.on < j := fun {c o j} h e he hb => by
    exact (compO_spec h).2.2.2.2.2.2 rfl e he (by rw [edgeOk_binds]; exact hb)
  intro fuel
  induction fuel with
  | zero =>
    intro listed J s t a w hls hcl hfu hB R h hap hQ
    have h0 : left cs listed = [] := List.eq_nil_of_length_eq_zero (by omega)
    rw [h0] at h
    simp only [runR] at h; cases h
    refine ⟨?_, hQ J a w (.refl _ _ _ _ _) R⟩
    cases hr : Region.ready .any ops listed with
    | nil => rfl
    | cons i rs =>
      exfalso
      obtain ⟨g1, o, g2, _⟩ := mem_ready.1 (hr ▸ List.mem_cons_self : i ∈ Region.ready .any ops listed)
      obtain ⟨c, c1, c2, _⟩ := hop i o g2
      have : c ∈ left cs listed := List.mem_filter.2 ⟨c1, by rw [c2, g1]; rfl⟩
      rw [h0] at this
      cases this
  | succ fuel ih =>
    intro listed J s t a w hls hcl hfu hB R h hap hQ
    refine ⟨fun hr => ?_, fun i hi => ?_⟩
    · cases hl : left cs listed with
      | nil =>
        rw [hl] at h
        simp only [runR] at h; cases h
        exact hQ J a w (.refl _ _ _ _ _) R
      | cons c rest =>
        exfalso
        have hcm : c ∈ left cs listed := by rw [hl]; exact List.mem_cons_self
        obtain ⟨c1, c2⟩ := List.mem_filter.1 hcm
        obtain ⟨o, o1, o2⟩ := hback c c1
        have hmem : c.ix ∈ Region.ready .any ops listed := by
          rw [mem_ready]
          refine ⟨by simpa using c2, o, o1, fun e he hb => ?_⟩
          have hlt := hon o2 e he hb
          have hcx : c.ix < ops.size := (Array.getElem?_eq_some_iff.1 o1).1
          rw [getD_both (by omega)]
          cases hg : listed.getD e.on true with
          | true => rfl
          | false =>
            exfalso
            obtain ⟨c', d1, d2, _⟩ := hop e.on ops[e.on] (Array.getElem?_eq_getElem (by omega))
            have hm' : c' ∈ left cs listed := List.mem_filter.2 ⟨d1, by rw [d2, hg]; rfl⟩
            have hps : (left cs listed).Pairwise fun x y => x.ix < y.ix := hsort.filter _
            rw [hl] at hm' hps
            rcases List.mem_cons.1 hm' with h3 | h3
            · rw [h3] at d2; omega
            · have := (List.pairwise_cons.1 hps).1 c' h3
              omega
        rw [hr] at hmem
        cases hmem
    · obtain ⟨g1, o, g2, g3⟩ := mem_ready.1 hi
      have hisz : i < ops.size := (Array.getElem?_eq_some_iff.1 g2).1
      obtain ⟨c, c1, c2, c3⟩ := hop i o g2
      have hcm : c ∈ left cs listed := List.mem_filter.2 ⟨c1, by rw [c2, g1]; rfl⟩
      obtain ⟨A, B', hAB⟩ := List.append_of_mem hcm
      have hps : (left cs listed).Pairwise fun x y => x.ix < y.ix := hsort.filter _
      have hpre : ∀ p ∈ c.pre, listed.getD p true = true := fun p hp => by
        rw [(compO_spec c3).2.2.2.2.1, if_pos rfl] at hp
        obtain ⟨e, he, hok, hpe⟩ := pres_spec ops.toList [] i o (by simpa using g2) p (by simpa using hp)
        have hb : Region.binds .any e = true := by rw [← edgeOk_binds]; exact hok
        have hlt := hon c3 e he hb
        have hle : listed.getD e.on true = true := by rw [← getD_both (by omega)]; exact g3 e he hb
        rcases hpe with rfl | hpe
        · exact hle
        · obtain ⟨c', d1, d2, d3⟩ := hop e.on ops[e.on] (Array.getElem?_eq_getElem (by omega))
          refine hcl c' d1 (by rw [d2]; exact hle) p ?_
          rw [(compO_spec d3).2.2.2.2.1, if_pos rfl]
          exact hpe
      have hmemA : ∀ x ∈ A, x ∈ left cs listed := fun x hx => by rw [hAB]; exact List.mem_append_left _ hx
      rw [hAB] at h hap hps
      obtain ⟨s1, LA, LB, f1, f2, f3, f4⟩ := front hkp h hap fun x hx => by
        cases hq : c.pre.contains x.ix with
        | false => rfl
        | true =>
          have h1 := hpre x.ix (by simpa using hq)
          have h2 := (List.mem_filter.1 (hmemA x hx)).2
          rw [h1] at h2
          cases h2
      have hne : (∀ x ∈ A, x.ix ≠ i) ∧ ∀ x ∈ B', x.ix ≠ i := by
        rw [List.pairwise_append] at hps
        obtain ⟨_, q2, q3⟩ := hps
        refine ⟨fun x hx e => ?_, fun x hx e => ?_⟩
        · have := q3 x hx c List.mem_cons_self
          omega
        · have := (List.pairwise_cons.1 q2).1 x hx
          omega
      have hleft : left cs (listed.setIfInBounds i true) = A ++ B' := by
        have e1 : left cs (listed.setIfInBounds i true) = (left cs listed).filter fun x => decide (x.ix ≠ i) := by
          unfold left
          rw [List.filter_filter]
          congr 1
          funext x
          rw [getD_set _ _ _ (by omega)]
          by_cases hx : x.ix = i <;> simp [hx]
        rw [e1, hAB, List.filter_append, List.filter_cons]
        rw [if_neg (by simp [c2])]
        rw [List.filter_eq_self.2 (fun x hx => by simpa using hne.1 x hx), List.filter_eq_self.2 (fun x hx => by simpa using hne.2 x hx)]
      have hsim := stepO_sim c3 hev hm hB R f1 (K := wpAny P .any ops Q fuel (listed.setIfInBounds i true)) (Q := Q) fun J' a' w' t1 R1 =>
        ih (listed.setIfInBounds i true) (by simpa using hls) (fun c' hc' hl' p hp => by
            have hpl : p < ops.size ∨ listed.getD p true = true := by
              by_cases hpp : p < ops.size
              · exact .inl hpp
              · right
                simp only [Array.getD]
                rw [dif_neg (by omega)]
            rw [getD_set _ _ _ (by omega)] at hl' ⊢
            split
            · rfl
            · by_cases hci : c'.ix = i
              · have : c' = c := by
                  obtain ⟨o', o1, o2⟩ := hback c' hc'
                  rw [hci, g2] at o1
                  cases o1
                  rw [hci, c3] at o2
                  cases o2
                  rfl
                subst this
                exact hpre p hp
              · rw [if_neg hci] at hl'
                exact hcl c' hc' hl' p hp)
          (by rw [hleft]; rw [hAB] at hfu; simp at hfu ⊢; omega) (Nat.le_trans hB (stepO_kp hkp f1).len) R1 (by rw [hleft]; exact f2) (by rw [hleft, f4]; rw [f3] at hap; exact allApart_drop hap)
          fun J'' a'' w'' t2 R2 => hQ J'' a'' w'' (t1.trans t2) R2
      unfold wpOp
      rw [g2]
      dsimp only
      split
      · rename_i hw; rw [if_pos hw] at hsim; exact .inl hsim
      · rename_i hw; rw [if_neg hw] at hsim; exact hsim

def EvLe (ev ev' : Evf) : Prop := ∀ m f vs H r, ev m f vs H = some r → ev' m f vs H = some r

theorem stepC_mono {ev' : Evf} (hle : EvLe ev ev') {draw : Bool} {s : St} {k : CK} {r : FV × St} (h : stepC E m draw ev s k = some r) : stepC E m draw ev' s k = some r := by
  unfold stepC at h ⊢
  cases hc : callee s k with
  | none => rw [hc] at h; exact h
  | some p =>
    obtain ⟨f, vs⟩ := p
    rw [hc] at h
    dsimp only at h ⊢
    cases hq : ev (if draw = true then m.drawn E.pw s.H f vs else m) f vs s.H with
    | none => rw [hq] at h; cases h
    | some q => rw [hq] at h; rw [hle _ _ _ _ _ hq]; exact h

theorem stepO_mono {ev' : Evf} (hle : EvLe ev ev') {draw : Bool} {s : St} {o : CO} {r : St} (h : stepO E m draw ev s o = some r) : stepO E m draw ev' s o = some r := by
  unfold stepO at h ⊢
  split at h
  · cases hq : stepC E m draw ev s o.k with
    | none => rw [hq] at h; cases h
    | some q => rw [hq] at h; rw [stepC_mono hle hq]; exact h
  · exact h
  · cases h

theorem runR_mono {ev' : Evf} (hle : EvLe ev ev') {draw : Bool} : ∀ {os : List CO} {s r : St}, runR E m draw ev os s = some r → runR E m draw ev' os s = some r ∧ (draw = true → infR E m ev' os s = infR E m ev os s)
  | [], s, r, h => ⟨h, fun _ => rfl⟩
  | o :: os, s, r, h => by
    obtain ⟨s1, h1, h2⟩ := runR_cons (s' := s) h
    obtain ⟨i1, i2⟩ := runR_mono hle h2
    have h3 := stepO_mono hle h1
    refine ⟨by simp only [runR, h3]; exact i1, fun hd => ?_⟩
    subst hd
    simp only [infR, h1, h3, i2 rfl]

theorem ev_succ : ∀ (k : Nat), EvLe (evF E k) (evF E (k + 1)) ∧ ∀ m c s r, evC E k m c s = some r → evC E (k + 1) m c s = some r
  | 0 => ⟨fun m f vs H r h => by simp [evF] at h, fun m c s r h => by simp [evC] at h⟩
  | k + 1 => by
    obtain ⟨i1, i2⟩ := ev_succ k
    refine ⟨fun m f vs H r h => ?_, fun m c s r h => ?_⟩
    · rw [evF] at h ⊢
      split at h
      · exact h
      · split at h
        · cases h
        · rename_i cf _
          split at h
          · rename_i hl
            rw [if_pos hl]
            cases hq : evC E k { m with nr := m.nr || E.tr f } cf.body { ρ := ini vs, gn := 0, H := H } with
            | none => rw [hq] at h; cases h
            | some q => rw [hq] at h; rw [i2 _ _ _ _ hq]; exact h
          · cases h
    · cases c with
      | skip => rw [evC] at h ⊢; exact h
      | exit id => rw [evC] at h ⊢; exact h
      | ret => rw [evC] at h ⊢; exact h
      | reg draw ops =>
        rw [evC] at h ⊢
        split at h
        · cases h
        · rename_i hna
          cases hq : runR E m draw (evF E k) ops s with
          | none => rw [hq] at h; cases h
          | some q =>
            obtain ⟨j1, j2⟩ := runR_mono i1 hq
            rw [if_neg (fun hc => hna ⟨hc.1, by rw [← j2 hc.1]; exact hc.2⟩), j1]
            rw [hq] at h
            exact h
      | seq a b =>
        rw [evC] at h ⊢
        cases hq : evC E k m a s with
        | none => rw [hq] at h; cases h
        | some q =>
          obtain ⟨e, s1⟩ := q
          rw [hq] at h
          rw [i2 _ _ _ _ hq]
          cases e with
          | normal => exact i2 _ _ _ _ h
          | exit id => exact h
          | ret => exact h
      | cond c a b =>
        rw [evC] at h ⊢
        split at h
        · exact i2 _ _ _ _ h
        · exact i2 _ _ _ _ h
        · cases h
      | block id c =>
        rw [evC] at h ⊢
        cases hq : evC E k m c s with
        | none => rw [hq] at h; cases h
        | some q => rw [hq] at h; rw [i2 _ _ _ _ hq]; exact h
      | loop c =>
        rw [evC] at h ⊢
        cases hq : evC E k m c s with
        | none => rw [hq] at h; cases h
        | some q =>
          obtain ⟨e, s1⟩ := q
          rw [hq] at h
          rw [i2 _ _ _ _ hq]
          cases e with
          | normal => exact i2 _ _ _ _ h
          | exit id => exact h
          | ret => exact h

theorem evC_mono {k : Nat} : ∀ (d : Nat) {c : CC} {s : St} {r : Ex × St}, evC E k m c s = some r → evC E (k + d) m c s = some r
  | 0, c, s, r, h => h
  | d + 1, c, s, r, h => (ev_succ (E := E) (k + d)).2 _ _ _ _ (evC_mono d h)

theorem evF_mono {k : Nat} : ∀ (d : Nat) {f : Nat} {vs : List Value} {H : Hp} {r : Value × Hp}, evF E k m f vs H = some r → evF E (k + d) m f vs H = some r
  | 0, f, vs, H, r, h => h
  | d + 1, f, vs, H, r, h => (ev_succ (E := E) (k + d)).1 _ _ _ _ _ (evF_mono d h)

def Ex.to : Ex → Exit
  | .normal => .normal
  | .exit id => .exit id
  | .ret => .ret

theorem cond_val {J : Inj} {s : St} {a : Act} {w : World} (R : Rel B N nt J s a w) {x : Operand} {y : X} {b : Bool} (hx : cx x = some y) (h : exv s.ρ y = some (.bool b)) : a.eval x = .bool b := (opx R hx h).bool_inv

/-- Code goes with code. -/
theorem simC {k : Nat} (hmix : P.follows .mixedOrders = true) (hev : ∀ j, j < k → SoundEv P B (evF E j)) (hkp : ∀ j, EvKp (evF E j) ∧ ∀ m c s e s', evC E j m c s = some (e, s') → Kp m s.H s'.H) (hm : ∀ id, m.wr id = true → B ≤ id) :
    ∀ (j : Nat), j ≤ k → ∀ {c : Code} {cc : CC} {J : Inj} {s s' : St} {a : Act} {w : World} {e : Ex} {Q : Exit → Act → World → Prop}, compC P hv nt c = some cc → evC E j m cc s = some (e, s') → B ≤ s.H.length → Rel B N nt J s a w →
      (∀ J' a' w', Tr B N J s.H w J' s'.H w' → Rel B N nt J' s' a' w' → Q e.to a' w') → c.wp P Q a w := by
  intro j
  induction j with
  | zero => intro _ c cc J s s' a w e Q hc h; simp [evC] at h
  | succ j ih =>
    intro hj c cc J s s' a w e Q hc h hB R hQ
    have ihj := fun {c : Code} {cc : CC} {J : Inj} {s s' : St} {a : Act} {w : World} {e : Ex} {Q : Exit → Act → World → Prop} => ih (by omega) (c := c) (cc := cc) (J := J) (s := s) (s' := s') (a := a) (w := w) (e := e) (Q := Q)
    cases c with
    | skip =>
      simp only [compC] at hc; cases hc
      simp only [evC] at h; cases h
      exact wp_skip (hQ J a w (.refl _ _ _ _ _) R)
    | exit id =>
      simp only [compC] at hc; cases hc
      simp only [evC] at h; cases h
      exact wp_exit (hQ J a w (.refl _ _ _ _ _) R)
    | ret =>
      simp only [compC] at hc; cases hc
      simp only [evC] at h; cases h
      exact wp_ret (hQ J a w (.refl _ _ _ _ _) R)
    | region id ops draw =>
      simp only [compC] at hc
      split at hc
      · rename_i cs hcs
        cases hc
        simp only [evC] at h
        split at h
        · cases h
        · rename_i hna
          split at h
          · rename_i s1 hs
            cases h
            cases draw with
            | false =>
              refine wp_region ?_
              have := region_sim (N := N) (Q := Q) hcs (hev j (by omega)) (hkp j).1 hm ops.size 0 (by omega) hB R hs hQ
              rw [List.range_eq_range']
              exact this
            | true =>
              refine wp_region_any hmix ?_
              have hap : allApart (infR E m (evF E j) cs s) = true := by
                cases hq : allApart (infR E m (evF E j) cs s) with
                | true => rfl
                | false => exact absurd ⟨rfl, hq⟩ hna
              obtain ⟨l1, l2⟩ := compOs_get hcs
              have hixs : ∀ c ∈ cs, c.ix < ops.size := fun c hcm => by
                obtain ⟨jj, hjj⟩ := List.getElem?_of_mem hcm
                have hlt := (List.getElem?_eq_some_iff.1 hjj).1
                simp at l1
                obtain ⟨c', g1, g2⟩ := l2 jj ops[jj] (by simp)
                rw [hjj] at g1; cases g1
                have := (compO_spec g2).2.2.2.1
                omega
              have hrep : ∀ jj, jj < ops.size → (Array.replicate ops.size false).getD jj true = false := fun jj hjj => by simp [Array.getD, hjj]
              have hleft : left cs (Array.replicate ops.size false) = cs := by
                unfold left
                rw [List.filter_eq_self]
                intro c hcm
                rw [hrep _ (hixs c hcm)]
                rfl
              have R1 := R.drew
              have := draw_sim (N := N) (Q := Q) hcs (hev j (by omega)) (hkp j).1 hm ops.size (Array.replicate ops.size false) (s := s) (t := s') (by simp) (fun c hcm hl => by rw [hrep _ (hixs c hcm)] at hl; cases hl) (by rw [hleft]; simp at l1; omega) hB R1
                (by rw [hleft]; exact hs) (by rw [hleft]; exact hap) fun J' a' w' t1 R2 => hQ J' a' w' (((Tr.drew J s.H w).mono R.hN).trans t1) R2
              exact this
          · cases h
      · cases hc
    | seq x y =>
      simp only [compC] at hc
      split at hc
      · rename_i cx' cy' h1 h2
        cases hc
        simp only [evC] at h
        refine wp_seq ?_
        cases he : evC E j m cx' s with
        | none => rw [he] at h; cases h
        | some p =>
          obtain ⟨e1, s1⟩ := p
          rw [he] at h
          have hk := (hkp j).2 _ _ _ _ _ he
          refine ihj h1 he hB R fun J' a' w' t1 R1 => ?_
          cases e1 with
          | normal =>
            dsimp only at h
            exact ihj h2 h (Nat.le_trans hB hk.len) R1 fun J'' a'' w'' t2 R2 => hQ J'' a'' w'' (t1.trans t2) R2
          | exit id => cases h; exact hQ J' a' w' t1 R1
          | ret => cases h; exact hQ J' a' w' t1 R1
      · cases hc
    | cond x y z =>
      simp only [compC] at hc
      split at hc
      · rename_i c' y' z' h1 h2 h3
        cases hc
        simp only [evC] at h
        split at h
        · rename_i hb
          exact wp_cond_true (cond_val R h1 hb) (ihj h2 h hB R hQ)
        · rename_i hb
          exact wp_cond_false (cond_val R h1 hb) (ihj h3 h hB R hQ)
        · cases h
      · cases hc
    | block id x =>
      simp only [compC] at hc
      split at hc
      · rename_i x' h1
        cases hc
        simp only [evC] at h
        refine wp_block ?_
        cases he : evC E j m x' s with
        | none => rw [he] at h; cases h
        | some p =>
          obtain ⟨e1, s1⟩ := p
          rw [he] at h
          refine ihj h1 he hB R fun J' a' w' t1 R1 => ?_
          cases e1 with
          | normal => cases h; exact hQ J' a' w' t1 R1
          | exit id' =>
            dsimp only at h
            show (if id' = id then Q .normal a' w' else Q (.exit id') a' w')
            split at h
            · rename_i hid; cases h; rw [if_pos hid]; exact hQ J' a' w' t1 R1
            · rename_i hid; cases h; rw [if_neg hid]; exact hQ J' a' w' t1 R1
          | ret => cases h; exact hQ J' a' w' t1 R1
      · cases hc
    | loop x =>
      simp only [compC] at hc
      split at hc
      · rename_i x' h1
        cases hc
        refine wp_loop_rounds (j + 1) ?_
        have key : ∀ (i : Nat), i ≤ j + 1 → ∀ {J : Inj} {s s' : St} {a : Act} {w : World} {e : Ex}, evC E i m (.loop x') s = some (e, s') → B ≤ s.H.length → Rel B N nt J s a w →
            (∀ J' a' w', Tr B N J s.H w J' s'.H w' → Rel B N nt J' s' a' w' → Q e.to a' w') → Code.rounds P x Q i a w := by
          intro i
          induction i with
          | zero => intro _ J s s' a w e h; simp [evC] at h
          | succ i ihi =>
            intro hi J s s' a w e h hB R hQ
            simp only [evC] at h
            rw [rounds_succ]
            cases he : evC E i m x' s with
            | none => rw [he] at h; cases h
            | some p =>
              obtain ⟨e1, s1⟩ := p
              rw [he] at h
              have hk := (hkp i).2 _ _ _ _ _ he
              have he' : ∃ e1' s1', evC E i m x' s = some (e1', s1') := ⟨e1, s1, he⟩
              have body : ∀ {Q' : Exit → Act → World → Prop}, (∀ J' a' w', Tr B N J s.H w J' s1.H w' → Rel B N nt J' s1 a' w' → Q' e1.to a' w') → x.wp P Q' a w := fun {Q'} hQ' => by
                have hmono : ∀ d, i + d = j → evC E j m x' s = some (e1, s1) := fun d hd => by
                  subst hd
                  exact evC_mono d he
                exact ihj h1 (hmono (j - i) (by omega)) hB R hQ'
              refine body fun J' a' w' t1 R1 => ?_
              cases e1 with
              | normal =>
                dsimp only at h
                exact ihi (by omega) h (Nat.le_trans hB hk.len) R1 fun J'' a'' w'' t2 R2 => hQ J'' a'' w'' (t1.trans t2) R2
              | exit id => cases h; exact hQ J' a' w' t1 R1
              | ret => cases h; exact hQ J' a' w' t1 R1
        exact key (j + 1) (Nat.le_refl _) h hB R hQ
      · cases hc
    | _ => simp [compC] at hc

end
end Go.Proofs.Ytdplmjlbkaipiaa.Ev
