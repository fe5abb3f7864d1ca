/- One region of Go code goes with the machine's, in whatever order Go takes its operations. -/
import Derived.Test.YtdplmjlbkaipiaaE12
namespace Go.Proofs.Ytdplmjlbkaipiaa.Ev
set_option linter.all false
open Go

section
variable {E : Env} {m : Md} {ev : Evf}

theorem on_congr {s u : St} {o : CO} (h : ∀ t b, o.g = some (t, b) → u.ρ t = s.ρ t) : o.on u.ρ = o.on s.ρ := by
  unfold CO.on
  cases hg : o.g with
  | none => rfl
  | some p => obtain ⟨t, b⟩ := p; simp only [h t b hg]

theorem infO_true {pw : Nat → Bool} {s : St} {o : CO} (h : o.on s.ρ = some true) :
    infO pw s o = { infK pw s o.k with rd := gRd o ++ (infK pw s o.k).rd, wt := o.dst.toList ++ (infK pw s o.k).wt } := by
  simp only [infO, h]

theorem infO_false {pw : Nat → Bool} {s : St} {o : CO} (h : o.on s.ρ = some false) :
    infO pw s o = { rd := gRd o, wt := o.dst.toList, hr := [], he := 0, ha := [] } := by
  simp only [infO, h]

theorem stepO_loc {s t u : St} {o : CO} (h : stepO E m true ev s o = some t) (ha : Agr (infO E.pw s o) s u) :
    ∃ t', stepO E m true ev u o = some t' ∧ infO E.pw u o = infO E.pw s o ∧ Loc2 (infO E.pw s o) t u t' := by
  have hon : o.on u.ρ = o.on s.ρ := on_congr fun t b hg => ha.rd t (by
    unfold infO gRd
    simp only [hg]
    split <;> simp)
  unfold stepO at h
  split at h
  · rename_i hs
    rw [infO_true hs] at ha ⊢
    split at h
    · rename_i f s1 hc
      cases h
      obtain ⟨t', h1, h2, h3⟩ := stepC_loc (pw := E.pw) rfl (u := u) hc ⟨fun x hx => ha.rd x (List.mem_append_right _ hx), ha.gn, ha.he, ha.hr⟩
      refine ⟨{ t' with ρ := upd t'.ρ o.dst f }, ?_, ?_, ⟨fun x hx => ?_, fun x hx => ?_, h3.gn, h3.H⟩⟩
      · simp only [stepO, hon, hs, h1]
      · rw [infO_true (hon.trans hs), h2]
      · cases hd : o.dst with
        | none =>
          rw [hd] at hx
          exact h3.wt x (by simpa using hx)
        | some d =>
          rw [hd] at hx
          simp only [upd]
          split
          · rfl
          · rename_i hne
            exact h3.wt x (by simpa [hne] using hx)
      · cases hd : o.dst with
        | none =>
          rw [hd] at hx
          exact h3.ot x (by simpa using hx)
        | some d =>
          rw [hd] at hx
          simp only [upd]
          simp only [Option.toList_some, List.cons_append, List.nil_append, List.mem_cons, not_or] at hx
          rw [if_neg hx.1]
          exact h3.ot x hx.2
    · cases h
  · rename_i hs
    cases h
    rw [infO_false hs] at ha ⊢
    refine ⟨{ u with ρ := upd u.ρ o.dst (.val (.tuple #[])) }, ?_, ?_, ⟨fun x hx => ?_, fun x hx => ?_, rfl, rfl⟩⟩
    · simp only [stepO, hon, hs]
    · rw [infO_false (hon.trans hs)]
    · cases hd : o.dst with
      | none => rw [hd] at hx; simp at hx
      | some d =>
        rw [hd] at hx
        have : x = d := by simpa using hx
        subst this
        simp [upd]
    · cases hd : o.dst with
      | none => rfl
      | some d =>
        rw [hd] at hx
        have : x ≠ d := by simpa using hx
        simp [upd, this]
  · cases h

theorem disj_spec {a b : List Nat} (h : disj a b = true) : ∀ x ∈ a, x ∉ b := fun x hx hb => by
  have := List.all_eq_true.1 h x hx
  simp [hb] at this

theorem stepC_old (hev : EvKp ev) {s t : St} {k : CK} {f : FV} (h : stepC E m true ev s k = some (f, t)) :
    ((infK E.pw s k).he = 1 → ∀ id, id < s.H.length → t.H[id]? = s.H[id]?) ∧ ((infK E.pw s k).he = 2 → ∀ id, id < s.H.length → id ∉ (infK E.pw s k).ha → t.H[id]? = s.H[id]?) := by
  have nocall : (∀ g args, k ≠ .call g args) → (∀ x args, k ≠ .callV x args) → ¬ (infK E.pw s k).he = 1 ∧ ¬ (infK E.pw s k).he = 2 := fun h1 h2 => by
    cases k <;> simp only [infK] <;> first
      | exact absurd rfl (h1 _ _)
      | exact absurd rfl (h2 _ _)
      | (split <;> simp)
      | simp
  have main : (∃ g args, k = .call g args) ∨ (∃ x args, k = .callV x args) → ((infK E.pw s k).he = 1 → ∀ id, id < s.H.length → t.H[id]? = s.H[id]?) ∧ ((infK E.pw s k).he = 2 → ∀ id, id < s.H.length → id ∉ (infK E.pw s k).ha → t.H[id]? = s.H[id]?) := fun hk => by
    have hinf : infK E.pw s k = match callee s k with
        | some (f, vs) => if E.pw f then { rd := k.ops.flatMap xs1, wt := [], hr := [], he := 1, ha := [], hb := s.H.length } else { rd := k.ops.flatMap xs1, wt := [], hr := [], he := 2, ha := vs.flatMap idsOf, hb := s.H.length }
        | none => { rd := k.ops.flatMap xs1, wt := [], hr := [], he := 3, ha := [] } := by
      rcases hk with ⟨g, args, rfl⟩ | ⟨x, args, rfl⟩ <;> rfl
    rw [hinf]
    unfold stepC at h
    cases hc : callee s k with
    | none => simp
    | some p =>
      obtain ⟨f', vs⟩ := p
      rw [hc] at h
      dsimp only at h ⊢
      cases he : ev (if true = true then m.drawn E.pw s.H f' vs else m) f' vs s.H with
      | none => rw [he] at h; cases h
      | some p =>
        obtain ⟨r, H⟩ := p
        rw [he] at h
        cases h
        have hk := hev _ _ _ _ _ _ he
        constructor
        · intro h1 id hid
          refine hk.wr id ?_ hid
          by_cases hp : E.pw f' = true
          · simp [Md.drawn, hp]; omega
          · simp [hp] at h1
        · intro h1 id hid hna
          refine hk.wr id ?_ hid
          by_cases hp : E.pw f' = true
          · simp [hp] at h1
          · simp only [hp] at hna
            have hna' : (vs.flatMap idsOf).contains id = false := by simpa using hna
            simp only [if_true, Md.drawn, hna']
            simp
            omega
  by_cases h1 : ∃ g args, k = .call g args
  · exact main (.inl h1)
  · by_cases h2 : ∃ x args, k = .callV x args
    · exact main (.inr h2)
    · obtain ⟨n1, n2⟩ := nocall (fun g args e => h1 ⟨g, args, e⟩) (fun x args e => h2 ⟨x, args, e⟩)
      exact ⟨fun e => absurd e n1, fun e => absurd e n2⟩

theorem stepO_old (hev : EvKp ev) {s t : St} {o : CO} (h : stepO E m true ev s o = some t) :
    ((infO E.pw s o).he = 1 → ∀ id, id < s.H.length → t.H[id]? = s.H[id]?) ∧ ((infO E.pw s o).he = 2 → ∀ id, id < s.H.length → id ∉ (infO E.pw s o).ha → t.H[id]? = s.H[id]?) := by
  unfold stepO at h
  split at h
  · rename_i hs
    rw [infO_true hs]
    split at h
    · rename_i f s1 hc
      cases h
      exact stepC_old (t := s1) hev hc
    · cases h
  · rename_i hs
    rw [infO_false hs]
    simp
  · cases h

theorem infO_hb {pw : Nat → Bool} {s : St} {o : CO} (h : (infO pw s o).he = 1 ∨ (infO pw s o).he = 2) : (infO pw s o).hb = s.H.length := by
  have hcall : ∀ (k : CK) (r : List Nat), (match callee s k with
        | some (f, vs) => if pw f then ({ rd := r, wt := [], hr := [], he := 1, ha := [], hb := s.H.length } : Inf) else { rd := r, wt := [], hr := [], he := 2, ha := vs.flatMap idsOf, hb := s.H.length }
        | none => { rd := r, wt := [], hr := [], he := 3, ha := [] }).he ≠ 3 → (match callee s k with
        | some (f, vs) => if pw f then ({ rd := r, wt := [], hr := [], he := 1, ha := [], hb := s.H.length } : Inf) else { rd := r, wt := [], hr := [], he := 2, ha := vs.flatMap idsOf, hb := s.H.length }
        | none => { rd := r, wt := [], hr := [], he := 3, ha := [] }).hb = s.H.length := fun k r h => by
    cases hc : callee s k with
    | none => simp [hc] at h
    | some p =>
      obtain ⟨f, vs⟩ := p
      by_cases hp : pw f = true <;> simp [hp]
  have hk : ∀ k : CK, (infK pw s k).he = 1 ∨ (infK pw s k).he = 2 → (infK pw s k).hb = s.H.length := fun k h => by
    have h3 : (infK pw s k).he ≠ 3 := by omega
    cases k with
    | call g args => exact hcall _ _ h3
    | callV x args => exact hcall _ _ h3
    | store n x v =>
      simp only [infK] at h
      split at h <;> simp at h
    | _ => simp [infK] at h
  unfold infO at h ⊢
  split
  · rename_i hs
    rw [hs] at h
    exact hk _ h
  · rename_i hs
    split at h
    · rename_i hs'; exact absurd hs' hs
    · simp at h

/-- What one reads of memory, where the other has acted. -/
theorem calm_spec (hev : EvKp ev) {s t : St} {o : CO} (h : stepO E m true ev s o = some t) {b : Inf} (hc : (infO E.pw s o).calm b = true) (h0 : (infO E.pw s o).he = 0 → t.H = s.H) : ∀ id ∈ b.hr, t.H[id]? = s.H[id]? := fun id hid => by
  obtain ⟨o1, o2⟩ := stepO_old hev h
  unfold Inf.calm at hc
  split at hc
  · rename_i e; rw [h0 e]
  · rename_i e
    have := List.all_eq_true.1 hc id hid
    rw [infO_hb (.inl e)] at this
    exact o1 e id (by simpa using this)
  · rename_i e
    have := List.all_eq_true.1 hc id hid
    rw [infO_hb (.inr e)] at this
    simp only [Bool.and_eq_true, decide_eq_true_eq, Bool.not_eq_true'] at this
    exact o2 e id this.1 (by simpa using this.2)
  · have : b.hr = [] := by simpa using hc
    rw [this] at hid
    cases hid

theorem commute (hev : EvKp ev) {s s1 s2 : St} {a b : CO} (ha : stepO E m true ev s a = some s1) (hb : stepO E m true ev s1 b = some s2) (hap : (infO E.pw s a).apart (infO E.pw s1 b) = true) :
    ∃ s1', stepO E m true ev s b = some s1' ∧ stepO E m true ev s1' a = some s2 ∧ infO E.pw s b = infO E.pw s1 b ∧ infO E.pw s1' a = infO E.pw s a := by
  have selfA : Agr (infO E.pw s a) s s := ⟨fun _ _ => rfl, fun _ => rfl, fun _ => rfl, fun _ _ => rfl⟩
  have selfB : Agr (infO E.pw s1 b) s1 s1 := ⟨fun _ _ => rfl, fun _ => rfl, fun _ => rfl, fun _ _ => rfl⟩
  obtain ⟨ta, ga, _, la⟩ := stepO_loc ha selfA
  rw [ha] at ga; cases ga
  obtain ⟨tb, gb, _, lb⟩ := stepO_loc hb selfB
  rw [hb] at gb; cases gb
  generalize hia : infO E.pw s a = ia at *
  generalize hib : infO E.pw s1 b = ib at *
  simp only [Inf.apart, Bool.and_eq_true, Bool.not_eq_true', Bool.and_eq_false_iff, Bool.or_eq_true, beq_iff_eq] at hap
  obtain ⟨⟨⟨⟨⟨⟨p1, p2⟩, p3⟩, p4⟩, p5⟩, p6⟩, p7⟩ := hap
  have hba : ∀ id ∈ ib.hr, s1.H[id]? = s.H[id]? := fun id hid => by
    have := calm_spec hev ha (b := ib) (by rw [hia]; exact p6) (fun e => by rw [hia] at e; have := la.H; rw [if_pos e] at this; exact this) id hid
    exact this
  have agB : Agr ib s1 s := ⟨fun x hx => ((la.ot x fun hw => disj_spec p1 x hw hx)).symm, fun hg => by
      have := la.gn
      have hga : ia.gn = false := by
        rcases p4 with h | h
        · exact h
        · rw [hg] at h; cases h
      rw [hga] at this
      exact this.symm, fun he => by
      have hea : ia.he = 0 := by
        rcases p5 with h | h
        · exact h
        · exact absurd h he
      have := la.H
      rw [if_pos hea] at this
      exact this.symm, fun id hid => (hba id hid).symm⟩
  obtain ⟨s1', g1, g2, l1⟩ := stepO_loc hb (by rw [hib]; exact agB)
  rw [hib] at g2 l1
  have agA : Agr ia s s1' := ⟨fun x hx => l1.ot x fun hw => disj_spec p2 x hw hx, fun hg => by
      have := l1.gn
      have hgb : ib.gn = false := by
        rcases p4 with h | h
        · rw [hg] at h; cases h
        · exact h
      rw [hgb] at this
      exact this, fun he => by
      have heb : ib.he = 0 := by
        rcases p5 with h | h
        · exact absurd h he
        · exact h
      have := l1.H
      rw [if_pos heb] at this
      exact this, fun id hid => by
      have e1 : infO E.pw s b = ib := g2
      exact calm_spec hev g1 (b := ia) (by rw [e1]; exact p7) (fun e => by rw [e1] at e; have := l1.H; rw [if_pos e] at this; exact this) id hid⟩
  obtain ⟨s2', k1, k2, l2⟩ := stepO_loc ha (by rw [hia]; exact agA)
  rw [hia] at k2 l2
  have hρ : s2'.ρ = s2.ρ := by
    funext x
    by_cases hx : x ∈ ia.wt
    · rw [l2.wt x hx]
      exact (lb.ot x fun h => disj_spec p3 x hx h).symm
    · rw [l2.ot x hx]
      by_cases hy : x ∈ ib.wt
      · exact l1.wt x hy
      · rw [l1.ot x hy, lb.ot x hy, la.ot x hx]
  have hgn : s2'.gn = s2.gn := by
    have e1 := l2.gn
    have e2 := l1.gn
    have e3 := lb.gn
    have e4 := la.gn
    cases hga : ia.gn <;> cases hgb : ib.gn <;> simp [hga, hgb] at e1 e2 e3 e4 p4
    · rw [e1, e2, e3, e4]
    · rw [e1, e2]
    · rw [e1, e3]
  have hH : s2'.H = s2.H := by
    have e1 := l2.H
    have e2 := l1.H
    have e3 := lb.H
    have e4 := la.H
    by_cases hga : ia.he = 0 <;> by_cases hgb : ib.he = 0 <;> simp [hga, hgb] at e1 e2 e3 e4 p5
    · rw [e1, e2, e3, e4]
    · rw [e1, e2]
    · rw [e1, e3]
  have : s2' = s2 := by
    cases s2'; cases s2
    simp only at hρ hgn hH
    rw [hρ, hgn, hH]
  subst this
  exact ⟨s1', g1, k1, g2, k2⟩

theorem infR_cons {o : CO} {os : List CO} {s s' : St} (h : stepO E m true ev s o = some s') : infR E m ev (o :: os) s = (o, infO E.pw s o) :: infR E m ev os s' := by
  simp only [infR, h]

theorem runR_cons {draw : Bool} {o : CO} {os : List CO} {s s' t : St} (h : runR E m draw ev (o :: os) s = some t) : ∃ s', stepO E m draw ev s o = some s' ∧ runR E m draw ev os s' = some t := by
  simp only [runR] at h
  split at h
  · rename_i s1 hs; exact ⟨s1, hs, h⟩
  · cases h

/-- An operation that nothing holds back may be taken first. -/
theorem front (hev : EvKp ev) : ∀ {A : List CO} {i : CO} {B : List CO} {s t : St}, runR E m true ev (A ++ i :: B) s = some t → allApart (infR E m ev (A ++ i :: B) s) = true → (∀ a ∈ A, i.pre.contains a.ix = false) →
    ∃ s1 LA LB, stepO E m true ev s i = some s1 ∧ runR E m true ev (A ++ B) s1 = some t ∧ infR E m ev (A ++ i :: B) s = LA ++ (i, infO E.pw s i) :: LB ∧ infR E m ev (A ++ B) s1 = LA ++ LB
  | [], i, B, s, t, h, _, _ => by
    obtain ⟨s1, h1, h2⟩ := runR_cons (s' := s) h
    exact ⟨s1, [], infR E m ev B s1, h1, h2, infR_cons h1, rfl⟩
  | a :: A, i, B, s, t, h, hp, hu => by
    obtain ⟨sa, h1, h2⟩ := runR_cons (s' := s) h
    have e := infR_cons (os := A ++ i :: B) h1
    have hp' : allApart ((a, infO E.pw s a) :: infR E m ev (A ++ i :: B) sa) = true := by rw [← e]; exact hp
    simp only [allApart, Bool.and_eq_true] at hp'
    obtain ⟨sb, LA, LB, g1, g2, g3, g4⟩ := front hev h2 hp'.2 fun x hx => hu x (List.mem_cons_of_mem _ hx)
    have hap : (infO E.pw s a).apart (infO E.pw sa i) = true := by
      have := List.all_eq_true.1 hp'.1 (i, infO E.pw sa i) (by rw [g3]; simp)
      simp only [hu a List.mem_cons_self, Bool.false_or] at this
      exact this
    obtain ⟨s1', c1, c2, c3, c4⟩ := commute hev h1 g1 hap
    refine ⟨s1', (a, infO E.pw s a) :: LA, LB, c1, ?_, ?_, ?_⟩
    · rw [List.cons_append]
      simp only [runR, c2, g2]
    · rw [List.cons_append, e, g3, c3]
      rfl
    · rw [List.cons_append, infR_cons c2, c4, g4]
      rfl

theorem allApart_drop {LA LB : List (CO × Inf)} {x : CO × Inf} (h : allApart (LA ++ x :: LB) = true) : allApart (LA ++ LB) = true := by
  induction LA with
  | nil =>
    obtain ⟨o, i⟩ := x
    simp only [List.nil_append, allApart, Bool.and_eq_true] at h ⊢
    exact h.2
  | cons y LA ih =>
    obtain ⟨o, i⟩ := y
    simp only [List.cons_append, allApart, Bool.and_eq_true] at h ⊢
    refine ⟨?_, ih h.2⟩
    rw [List.all_eq_true] at h ⊢
    intro p hp
    refine h.1 p ?_
    rcases List.mem_append.1 hp with h1 | h1
    · exact List.mem_append_left _ h1
    · exact List.mem_append_right _ (List.mem_cons_of_mem _ h1)

end
end Go.Proofs.Ytdplmjlbkaipiaa.Ev
