/- Regions with an open order: what is to be looked at beforehand, and what then is left. -/
import Derived.Test.YtdplmjlbkaipiaaE17
namespace Go.Proofs.Ytdplmjlbkaipiaa.Ev
set_option linter.all false
open Go

/-- The boxes of the frame that an operation goes through, and whether it reads no row. -/
def boxOf (ρ : Nat → FV) (o : CO) : List Nat × Bool :=
  match o.k with
  | .load _ _ x => ((adInf ρ x).1, (adInf ρ x).2.isEmpty)
  | .fadr _ x | .iadrA _ _ x _ => ((adInf ρ x).1, true)
  | .b2s _ => ([], false)
  | _ => ([], true)

/-- What an operation reads and writes in the frame, if it makes and writes nothing of memory; or it is a call. -/
def statI (o : CO) (bs : List Nat × Bool) : Option (Bool × List Nat × List Nat) :=
  match o.k with
  | .store .. | .newV _ | .boxV _ | .newO _ | .boxO _ | .mkO .. | .makeS .. | .s2b .. | .app .. | .cpy .. | .clr .. => none
  | .call f args => some (true, gRd o ++ (args.flatMap xs1), o.dst.toList)
  | .callV x args => some (true, gRd o ++ ((x :: args).flatMap xs1), o.dst.toList)
  | k => some (false, gRd o ++ (k.ops.flatMap xs1 ++ bs.1), o.dst.toList)

def chk1 (o : CO) (bs : List Nat × Bool) (o' : CO) (bs' : List Nat × Bool) : Bool :=
  o'.pre.contains o.ix ||
  match statI o bs, statI o' bs' with
  | some a, some b => disj a.2.2 b.2.1 && disj b.2.2 a.2.1 && disj a.2.2 b.2.2 && !(a.1 && b.1) && (!a.1 || bs'.2) && (!b.1 || bs.2)
  | _, _ => false

def chk : List CO → List (List Nat × Bool) → Bool
  | [], [] => true
  | o :: os, b :: bs => ((os.zip bs).all fun p => chk1 o b p.1 p.2) && chk os bs
  | _, _ => false

def wpD3 (E : Env) (m : Md) (ops : List CO) : List CO → St → List (List Nat × Bool) → (St → Prop) → Prop
  | [], s, acc, Q => chk ops acc.reverse = true ∧ Q s
  | o :: os, s, acc, Q => wpO E m true s o fun s' => wpD3 E m ops os s' (boxOf s.ρ o :: acc) Q

section
variable {E : Env} {m : Md}

theorem disj_sub {a b a' b' : List Nat} (h : disj a b = true) (ha : ∀ x ∈ a', x ∈ a) (hb : ∀ x ∈ b', x ∈ b) : disj a' b' = true := by
  unfold disj at *
  rw [List.all_eq_true] at *
  intro x hx
  have := h x (ha x hx)
  simp only [List.contains_eq_mem, Bool.not_eq_true', decide_eq_false_iff_not] at *
  exact fun hm => this (hb x hm)

theorem infO_stat {pw : Nat → Bool} {s : St} {o : CO} {a : Bool × List Nat × List Nat} (h : statI o (boxOf s.ρ o) = some a) :
    (a.1 = false → (infO pw s o).he = 0) ∧ (infO pw s o).gn = false ∧ (∀ x ∈ (infO pw s o).rd, x ∈ a.2.1) ∧ (∀ x ∈ (infO pw s o).wt, x ∈ a.2.2) ∧ ((boxOf s.ρ o).2 = true → (infO pw s o).hr = []) := by
  unfold infO
  have full : (a.1 = false → (infK pw s o.k).he = 0) ∧ (infK pw s o.k).gn = false ∧ (∀ x ∈ gRd o ++ (infK pw s o.k).rd, x ∈ a.2.1) ∧ (∀ x ∈ o.dst.toList ++ (infK pw s o.k).wt, x ∈ a.2.2) ∧ ((boxOf s.ρ o).2 = true → (infK pw s o.k).hr = []) := by
    have call : ∀ {k : CK}, o.k = k → (∃ f args, k = .call f args) ∨ (∃ x args, k = .callV x args) → a = (true, gRd o ++ (k.ops.flatMap xs1), o.dst.toList) →
        (a.1 = false → (infK pw s o.k).he = 0) ∧ (infK pw s o.k).gn = false ∧ (∀ x ∈ gRd o ++ (infK pw s o.k).rd, x ∈ a.2.1) ∧ (∀ x ∈ o.dst.toList ++ (infK pw s o.k).wt, x ∈ a.2.2) ∧ ((boxOf s.ρ o).2 = true → (infK pw s o.k).hr = []) := by
      rintro k hk hc rfl
      rw [hk]
      have : (infK pw s k).gn = false ∧ (infK pw s k).rd = k.ops.flatMap xs1 ∧ (infK pw s k).wt = [] ∧ (infK pw s k).hr = [] := by
        rcases hc with ⟨f, args, rfl⟩ | ⟨x, args, rfl⟩ <;> unfold infK <;> simp only <;> split
        · split <;> exact ⟨rfl, rfl, rfl, rfl⟩
        · exact ⟨rfl, rfl, rfl, rfl⟩
        · split <;> exact ⟨rfl, rfl, rfl, rfl⟩
        · exact ⟨rfl, rfl, rfl, rfl⟩
      obtain ⟨h1, h2, h3, h4⟩ := this
      rw [h1, h2, h3, h4]
      exact ⟨fun h => (Bool.noConfusion h), rfl, fun x hx => hx, fun x hx => by simpa using hx, fun _ => rfl⟩
    cases hk : o.k with
    | call f args => exact call hk (.inl ⟨_, _, rfl⟩) (by unfold statI at h; rw [hk] at h; simp only [Option.some.injEq] at h; rw [← h]; rfl) |> fun h => by rw [hk] at h; exact h
    | callV x args => exact call hk (.inr ⟨_, _, rfl⟩) (by unfold statI at h; rw [hk] at h; simp only [Option.some.injEq] at h; rw [← h]; rfl) |> fun h => by rw [hk] at h; exact h
    | _ =>
      unfold statI boxOf at h
      unfold boxOf infK
      rw [hk] at h ⊢
      first
        | (simp only [reduceCtorEq] at h; done)
        | (simp only [Option.some.injEq] at h; subst h; simp)
  have off : (∀ x ∈ gRd o, x ∈ a.2.1) ∧ ∀ x ∈ o.dst.toList, x ∈ a.2.2 := ⟨fun x hx => full.2.2.1 x (List.mem_append_left _ hx), fun x hx => full.2.2.2.1 x (List.mem_append_left _ hx)⟩
  split
  · exact full
  · exact ⟨fun _ => rfl, rfl, off.1, off.2, fun _ => rfl⟩

theorem calm_nil {a b : Inf} (h : b.hr = []) : a.calm b = true := by
  unfold Inf.calm
  rw [h]
  split <;> rfl

theorem apart_stat {pw : Nat → Bool} {s s' : St} {o o' : CO} (h : chk1 o (boxOf s.ρ o) o' (boxOf s'.ρ o') = true) : (o'.pre.contains o.ix || (infO pw s o).apart (infO pw s' o')) = true := by
  unfold chk1 at h
  rw [Bool.or_eq_true] at h ⊢
  rcases h with h | h
  · exact .inl h
  · refine .inr ?_
    split at h
    · rename_i a b ha hb
      obtain ⟨a1, a2, a3, a4, a5⟩ := infO_stat (pw := pw) ha
      obtain ⟨b1, b2, b3, b4, b5⟩ := infO_stat (pw := pw) hb
      simp only [Bool.and_eq_true] at h
      obtain ⟨⟨⟨⟨⟨h1, h2⟩, h3⟩, h4⟩, h5⟩, h6⟩ := h
      unfold Inf.apart
      have c1 : (infO pw s o).calm (infO pw s' o') = true := by
        cases ha1 : a.1 with
        | false => unfold Inf.calm; rw [a1 ha1]; rfl
        | true => exact calm_nil (b5 (by rw [ha1] at h5; simpa using h5))
      have c2 : (infO pw s' o').calm (infO pw s o) = true := by
        cases hb1 : b.1 with
        | false => unfold Inf.calm; rw [b1 hb1]; rfl
        | true => exact calm_nil (a5 (by rw [hb1] at h6; simpa using h6))
      have c3 : ((infO pw s o).he == 0 || (infO pw s' o').he == 0) = true := by
        cases ha1 : a.1 with
        | false => rw [a1 ha1]; rfl
        | true =>
          rw [ha1] at h4
          rw [b1 (by simpa using h4)]
          simp
      rw [c1, c2, c3, a2, disj_sub h1 a4 b3, disj_sub h2 b4 a3, disj_sub h3 a4 b4]
      rfl
    · cases h

theorem chk_apart {pw : Nat → Bool} : ∀ {l : List (CO × St)}, chk (l.map (·.1)) (l.map fun p => boxOf p.2.ρ p.1) = true → allApart (l.map fun p => (p.1, infO pw p.2 p.1)) = true
  | [], _ => rfl
  | (o, s) :: l, h => by
    simp only [List.map_cons, chk, Bool.and_eq_true] at h
    simp only [List.map_cons, allApart, Bool.and_eq_true]
    refine ⟨?_, chk_apart h.2⟩
    have h1 := h.1
    rw [List.zip_map', List.all_eq_true] at h1
    rw [List.all_eq_true]
    intro p hp
    obtain ⟨q, hq, rfl⟩ := List.mem_map.1 hp
    exact apart_stat (h1 _ (List.mem_map.2 ⟨q, hq, rfl⟩))

theorem wpK_mono {draw : Bool} {s : St} {k : CK} {Q Q' : FV → St → Prop} (h : wpK E m draw s k Q) (hq : ∀ v s', Q v s' → Q' v s') : wpK E m draw s k Q' := by
  revert h
  cases k with
  | call f args =>
    simp only [wpK]
    cases exvs s.ρ args with
    | none => exact fun h => h
    | some vs => exact fun h => Fun.mono h fun _ _ => hq _ _
  | callV x args =>
    simp only [wpK]
    intro h
    split at h
    · cases ha : exvs s.ρ args with
      | none => rw [ha] at h; exact h
      | some vs => rw [ha] at h; exact ⟨h.1, Fun.mono h.2 fun _ _ => hq _ _⟩
    · exact h.elim
  | _ =>
    simp only [wpK]
    intro h
    unfold opt at *
    split at h
    · exact hq _ _ h
    · exact h.elim

theorem wpO_mono {draw : Bool} {s : St} {o : CO} {Q Q' : St → Prop} (h : wpO E m draw s o Q) (hq : ∀ s', Q s' → Q' s') : wpO E m draw s o Q' := by
  unfold wpO at *
  split at h
  · exact wpK_mono h fun _ _ => hq _
  · split at h
    · exact ⟨fun e => wpK_mono (h.1 e) fun _ _ => hq _, fun e => hq _ (h.2 e)⟩
    · exact hq _ h
    · exact h.elim

theorem wpD3_wpD {ops : List CO} : ∀ {os : List CO} {s : St} {l : List (CO × St)} {Q : St → Prop}, ops = l.map (·.1) ++ os → wpD3 E m ops os s (l.map fun p => boxOf p.2.ρ p.1).reverse Q → wpD E m os s (l.map fun p => (p.1, infO E.pw p.2 p.1)).reverse Q
  | [], s, l, Q, he, h => by
    simp only [wpD3] at h
    simp only [wpD]
    rw [List.reverse_reverse] at h ⊢
    rw [he, List.append_nil] at h
    exact ⟨chk_apart h.1, h.2⟩
  | o :: os, s, l, Q, he, h => by
    simp only [wpD3] at h
    simp only [wpD]
    refine wpO_mono h fun s' h' => ?_
    have := wpD3_wpD (ops := ops) (l := l ++ [(o, s)]) (os := os) (s := s') (Q := Q) (by simp [he]) (by simpa using h')
    simpa using this

/-- Regions with an open order, where no call and no writing stands in the open. -/
theorem wpD_easy {ops : List CO} {s : St} {Q : St → Prop} (h : wpD3 E m ops ops s [] Q) : wpD E m ops s [] Q := wpD3_wpD (l := []) rfl h

theorem upd_some (ρ : Nat → FV) (d : Nat) (v : FV) (i : Nat) : upd ρ (some d) v i = if i = d then v else ρ i := rfl
theorem upd_none (ρ : Nat → FV) (v : FV) : upd ρ none v = ρ := rfl
theorem Br_true (P Q : Prop) : Br true P Q = P := by simp [Br]
theorem Br_false (P Q : Prop) : Br false P Q = Q := by simp [Br]
theorem Br_not (c : Bool) (P Q : Prop) : Br (!c) P Q = Br c Q P := by cases c <;> simp [Br]
theorem opt_some {α : Type} (a : α) (Q : α → Prop) : opt (some a) Q = Q a := rfl
theorem Br.intro {c : Bool} {P Q : Prop} (h1 : c = true → P) (h2 : c = false → Q) : Br c P Q := ⟨h1, h2⟩
theorem seq_ok {a b : CC} {s : St} {Q : Ex → St → Prop} (h : wpC E m a s fun e s' =>
    match e with
    | .normal => wpC E m b s' Q
    | .exit j => Q (.exit j) s'
    | .ret => Q .ret s') : wpC E m (.seq a b) s Q := h
theorem reg_easy {ops : List CO} {s : St} {Q : Ex → St → Prop} : wpD3 E m ops ops s [] (Q .normal) → wpC E m (.reg true ops) s Q := wpD_easy

end
end Go.Proofs.Ytdplmjlbkaipiaa.Ev
