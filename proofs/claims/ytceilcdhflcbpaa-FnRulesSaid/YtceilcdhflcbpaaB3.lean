/- Texts of this proof, laid one behind the other: what each shows stands at its head. -/
import Derived.Test.YtceilcdhflcbpaaB2
import Derived.ChangeSame
import Derived.ChangeShapes
import Derived.WideShapes
import Derived.Carry
import Derived.Sort.Grow
import Derived.Test.YtceilcdhflcbpaaProg
/- Regions with an open order: what is to be looked at beforehand, and what then is left. -/
namespace Go.Proofs.Ytceilcdhflcbpaa.Ev
set_option linter.all false
open Go

/-- The boxes of the frame that an operation goes through, and whether it reads no row. -/
def boxOf (ρ : Nat → FV) (o : CO) : List Nat × Bool :=
  match o.k with
  | .load _ _ x => ((adInf ρ x).1, (adInf ρ x).2.isEmpty)
  | .fadr _ x | .iadrA _ _ x _ => ((adInf ρ x).1, true)
  | .b2s _ => ([], false)
  | .store _ x _ => ((adInf ρ x).1, true)
  | _ => ([], true)

/-- What an operation reads and writes in the frame, if it makes and writes nothing of memory; or it is a call, or makes memory. -/
def statI (o : CO) (bs : List Nat × Bool) : Option (Bool × List Nat × List Nat) :=
  match o.k with
  | .store .. => if bs.1.isEmpty then some (true, gRd o ++ (o.k.ops.flatMap xs1), o.dst.toList) else some (false, gRd o ++ (o.k.ops.flatMap xs1 ++ bs.1), o.dst.toList ++ bs.1)
  | .newO _ | .boxO _ | .mkO .. | .makeS .. | .s2b .. | .app .. | .cpy .. | .clr .. => some (true, gRd o ++ (o.k.ops.flatMap xs1), o.dst.toList)
  | .call f args => some (true, gRd o ++ (args.flatMap xs1), o.dst.toList)
  | .callV x args => some (true, gRd o ++ ((x :: args).flatMap xs1), o.dst.toList)
  | k => some (false, gRd o ++ (k.ops.flatMap xs1 ++ bs.1), o.dst.toList)

/-- Does it make a box of the frame? -/
def isN (o : CO) : Bool :=
  match o.k with
  | .newV _ | .boxV _ => true
  | _ => false

def chk1 (o : CO) (bs : List Nat × Bool) (o' : CO) (bs' : List Nat × Bool) : Bool :=
  o'.pre.contains o.ix ||
  match statI o bs, statI o' bs' with
  | some a, some b => disj a.2.2 b.2.1 && disj b.2.2 a.2.1 && disj a.2.2 b.2.2 && !(a.1 && b.1) && (!a.1 || bs'.2) && (!b.1 || bs.2) && !(isN o && isN o')
  | _, _ => false

def chk : List CO → List (List Nat × Bool) → Bool
  | [], [] => true
  | o :: os, b :: bs => ((os.zip bs).all fun p => chk1 o b p.1 p.2) && chk os bs
  | _, _ => false

def wpD3 (E : Env) (m : Md) (ops : List CO) : List CO → St → List (List Nat × Bool) → (St → Prop) → Prop
  | [], s, acc, Q => chk ops acc.reverse = true ∧ Q s
  | o :: os, s, acc, Q => wpO E m true s o fun s' => wpD3 E m ops os s' (boxOf s.ρ o :: acc) Q

section
variable {E : Env} {m : Md}

theorem disj_sub {a b a' b' : List Nat} (h : disj a b = true) (ha : ∀ x ∈ a', x ∈ a) (hb : ∀ x ∈ b', x ∈ b) : disj a' b' = true := by
  unfold disj at *
  rw [List.all_eq_true] at *
  intro x hx
  have := h x (ha x hx)
  simp only [List.contains_eq_mem, Bool.not_eq_true', decide_eq_false_iff_not] at *
  exact fun hm => this (hb x hm)

theorem infO_stat {pw : Nat → Bool} {s : St} {o : CO} {a : Bool × List Nat × List Nat} (h : statI o (boxOf s.ρ o) = some a) :
    (a.1 = false → (infO pw s o).he = 0) ∧ ((infO pw s o).gn = true → isN o = true) ∧ (∀ x ∈ (infO pw s o).rd, x ∈ a.2.1) ∧ (∀ x ∈ (infO pw s o).wt, x ∈ a.2.2) ∧ ((boxOf s.ρ o).2 = true → (infO pw s o).hr = []) := by
  unfold infO
  have full : (a.1 = false → (infK pw s o.k).he = 0) ∧ ((infK pw s o.k).gn = true → isN o = true) ∧ (∀ x ∈ gRd o ++ (infK pw s o.k).rd, x ∈ a.2.1) ∧ (∀ x ∈ o.dst.toList ++ (infK pw s o.k).wt, x ∈ a.2.2) ∧ ((boxOf s.ρ o).2 = true → (infK pw s o.k).hr = []) := by
    have call : ∀ {k : CK}, o.k = k → (∃ f args, k = .call f args) ∨ (∃ x args, k = .callV x args) → a = (true, gRd o ++ (k.ops.flatMap xs1), o.dst.toList) →
        (a.1 = false → (infK pw s o.k).he = 0) ∧ ((infK pw s o.k).gn = true → isN o = true) ∧ (∀ x ∈ gRd o ++ (infK pw s o.k).rd, x ∈ a.2.1) ∧ (∀ x ∈ o.dst.toList ++ (infK pw s o.k).wt, x ∈ a.2.2) ∧ ((boxOf s.ρ o).2 = true → (infK pw s o.k).hr = []) := by
      rintro k hk hc rfl
      rw [hk]
      have : (infK pw s k).gn = false ∧ (infK pw s k).rd = k.ops.flatMap xs1 ∧ (infK pw s k).wt = [] ∧ (infK pw s k).hr = [] := by
        rcases hc with ⟨f, args, rfl⟩ | ⟨x, args, rfl⟩ <;> unfold infK <;> simp only <;> split
        · split <;> exact ⟨rfl, rfl, rfl, rfl⟩
        · exact ⟨rfl, rfl, rfl, rfl⟩
        · split <;> exact ⟨rfl, rfl, rfl, rfl⟩
        · exact ⟨rfl, rfl, rfl, rfl⟩
      obtain ⟨h1, h2, h3, h4⟩ := this
      rw [h1, h2, h3, h4]
      exact ⟨fun h => (Bool.noConfusion h), fun h => (Bool.noConfusion h), fun x hx => hx, fun x hx => by simpa using hx, fun _ => rfl⟩
    cases hk : o.k with
    | call f args => exact call hk (.inl ⟨_, _, rfl⟩) (by unfold statI at h; rw [hk] at h; simp only [Option.some.injEq] at h; rw [← h]; rfl) |> fun h => by rw [hk] at h; exact h
    | callV x args => exact call hk (.inr ⟨_, _, rfl⟩) (by unfold statI at h; rw [hk] at h; simp only [Option.some.injEq] at h; rw [← h]; rfl) |> fun h => by rw [hk] at h; exact h
    | store n x y =>
      unfold statI boxOf at h
      unfold boxOf infK
      rw [hk] at h ⊢
      simp only at h ⊢
      unfold adInf at h
      cases hadr : adr s.ρ x with
      | none =>
        rw [hadr] at h
        simp only [List.isEmpty_nil, if_true, Option.some.injEq] at h
        subst h
        simp
      | some ad =>
        cases ad with
        | hp id p e =>
          rw [hadr] at h
          simp only [List.isEmpty_nil, if_true, Option.some.injEq] at h
          subst h
          simp
        | box t p e =>
          rw [hadr] at h
          simp only [List.isEmpty_cons, if_false, Option.some.injEq, Bool.false_eq_true] at h
          subst h
          simp
    | _ =>
      unfold statI boxOf at h
      unfold boxOf infK
      rw [hk] at h ⊢
      first
        | (simp only [reduceCtorEq] at h; done)
        | (simp only [Option.some.injEq] at h; subst h; simp [isN, hk])
  have off : (∀ x ∈ gRd o, x ∈ a.2.1) ∧ ∀ x ∈ o.dst.toList, x ∈ a.2.2 := ⟨fun x hx => full.2.2.1 x (List.mem_append_left _ hx), fun x hx => full.2.2.2.1 x (List.mem_append_left _ hx)⟩
  split
  · exact full
  · exact ⟨fun _ => rfl, fun h => (Bool.noConfusion h), off.1, off.2, fun _ => rfl⟩

theorem calm_nil {a b : Inf} (h : b.hr = []) : a.calm b = true := by
  unfold Inf.calm
  rw [h]
  split <;> rfl

theorem apart_stat {pw : Nat → Bool} {s s' : St} {o o' : CO} (h : chk1 o (boxOf s.ρ o) o' (boxOf s'.ρ o') = true) : (o'.pre.contains o.ix || (infO pw s o).apart (infO pw s' o')) = true := by
  unfold chk1 at h
  rw [Bool.or_eq_true] at h ⊢
  rcases h with h | h
  · exact .inl h
  · refine .inr ?_
    split at h
    · rename_i a b ha hb
      obtain ⟨a1, a2, a3, a4, a5⟩ := infO_stat (pw := pw) ha
      obtain ⟨b1, b2, b3, b4, b5⟩ := infO_stat (pw := pw) hb
      simp only [Bool.and_eq_true] at h
      obtain ⟨⟨⟨⟨⟨⟨h1, h2⟩, h3⟩, h4⟩, h5⟩, h6⟩, h8⟩ := h
      unfold Inf.apart
      have c1 : (infO pw s o).calm (infO pw s' o') = true := by
        cases ha1 : a.1 with
        | false => unfold Inf.calm; rw [a1 ha1]; rfl
        | true => exact calm_nil (b5 (by rw [ha1] at h5; simpa using h5))
      have c2 : (infO pw s' o').calm (infO pw s o) = true := by
        cases hb1 : b.1 with
        | false => unfold Inf.calm; rw [b1 hb1]; rfl
        | true => exact calm_nil (a5 (by rw [hb1] at h6; simpa using h6))
      have c3 : ((infO pw s o).he == 0 || (infO pw s' o').he == 0) = true := by
        cases ha1 : a.1 with
        | false => rw [a1 ha1]; rfl
        | true =>
          rw [ha1] at h4
          rw [b1 (by simpa using h4)]
          simp
      have c4 : (!((infO pw s o).gn && (infO pw s' o').gn)) = true := by
        cases g1 : (infO pw s o).gn with
        | false => rfl
        | true =>
          cases g2 : (infO pw s' o').gn with
          | false => rfl
          | true =>
            rw [a2 g1, b2 g2] at h8
            exact absurd h8 (by decide)
      rw [c1, c2, c3, c4, disj_sub h1 a4 b3, disj_sub h2 b4 a3, disj_sub h3 a4 b4]
      rfl
    · cases h

theorem chk_apart {pw : Nat → Bool} : ∀ {l : List (CO × St)}, chk (l.map (·.1)) (l.map fun p => boxOf p.2.ρ p.1) = true → allApart (l.map fun p => (p.1, infO pw p.2 p.1)) = true
  | [], _ => rfl
  | (o, s) :: l, h => by
    simp only [List.map_cons, chk, Bool.and_eq_true] at h
    simp only [List.map_cons, allApart, Bool.and_eq_true]
    refine ⟨?_, chk_apart h.2⟩
    have h1 := h.1
    rw [List.zip_map', List.all_eq_true] at h1
    rw [List.all_eq_true]
    intro p hp
    obtain ⟨q, hq, rfl⟩ := List.mem_map.1 hp
    exact apart_stat (h1 _ (List.mem_map.2 ⟨q, hq, rfl⟩))

theorem wpK_mono {draw : Bool} {s : St} {k : CK} {Q Q' : FV → St → Prop} (h : wpK E m draw s k Q) (hq : ∀ v s', Q v s' → Q' v s') : wpK E m draw s k Q' := by
  revert h
  cases k with
  | call f args =>
    simp only [wpK]
    cases exvs s.ρ args with
    | none => exact fun h => h
    | some vs => exact fun h => Fun.mono h fun _ _ => hq _ _
  | callV x args =>
    simp only [wpK]
    intro h
    split at h
    · cases ha : exvs s.ρ args with
      | none => rw [ha] at h; exact h
      | some vs => rw [ha] at h; exact ⟨h.1, Fun.mono h.2 fun _ _ => hq _ _⟩
    · exact h.elim
  | _ =>
    simp only [wpK]
    intro h
    unfold opt at *
    split at h
    · exact hq _ _ h
    · exact h.elim

theorem wpO_mono {draw : Bool} {s : St} {o : CO} {Q Q' : St → Prop} (h : wpO E m draw s o Q) (hq : ∀ s', Q s' → Q' s') : wpO E m draw s o Q' := by
  unfold wpO at *
  split at h
  · exact wpK_mono h fun _ _ => hq _
  · split at h
    · exact ⟨fun e => wpK_mono (h.1 e) fun _ _ => hq _, fun e => hq _ (h.2 e)⟩
    · exact hq _ h
    · exact h.elim

theorem wpD3_wpD {ops : List CO} : ∀ {os : List CO} {s : St} {l : List (CO × St)} {Q : St → Prop}, ops = l.map (·.1) ++ os → wpD3 E m ops os s (l.map fun p => boxOf p.2.ρ p.1).reverse Q → wpD E m os s (l.map fun p => (p.1, infO E.pw p.2 p.1)).reverse Q
  | [], s, l, Q, he, h => by
    simp only [wpD3] at h
    simp only [wpD]
    rw [List.reverse_reverse] at h ⊢
    rw [he, List.append_nil] at h
    exact ⟨chk_apart h.1, h.2⟩
  | o :: os, s, l, Q, he, h => by
    simp only [wpD3] at h
    simp only [wpD]
    refine wpO_mono h fun s' h' => ?_
    have := wpD3_wpD (ops := ops) (l := l ++ [(o, s)]) (os := os) (s := s') (Q := Q) (by simp [he]) (by simpa using h')
    simpa using this

/-- Regions with an open order, where no call and no writing stands in the open. -/
theorem wpD_easy {ops : List CO} {s : St} {Q : St → Prop} (h : wpD3 E m ops ops s [] Q) : wpD E m ops s [] Q := wpD3_wpD (l := []) rfl h

theorem upd_some (ρ : Nat → FV) (d : Nat) (v : FV) (i : Nat) : upd ρ (some d) v i = if i = d then v else ρ i := rfl
theorem upd_none (ρ : Nat → FV) (v : FV) : upd ρ none v = ρ := rfl
theorem Br.intro {c : Bool} {P Q : Prop} (h1 : c = true → P) (h2 : c = false → Q) : Br c P Q := ⟨h1, h2⟩
end
/-- .. the same, where calls that write nothing old may stand beside readings of old rows. -/
def box2 (n0 : Nat) (s : St) (o : CO) : List Nat × Bool × Bool :=
  match o.k with
  | .load _ _ x => ((adInf s.ρ x).1, (adInf s.ρ x).2.isEmpty, (adInf s.ρ x).2.all fun id => decide (id < n0))
  | .fadr _ x | .iadrA _ _ x _ => ((adInf s.ρ x).1, true, true)
  | .b2s _ => ([], false, false)
  | .store _ x _ => ((adInf s.ρ x).1, true, true)
  | .call _ args => ([], true, (exvs s.ρ args).isSome && decide (n0 ≤ s.H.length))
  | .newO _ | .boxO _ | .mkO .. | .makeS .. | .s2b .. => ([], true, decide (n0 ≤ s.H.length))
  | .app _ _ x _ => ([], true, decide (n0 ≤ s.H.length) && ((exv s.ρ x).map fun v => (idsOf v).all fun id => decide (n0 ≤ id)) == some true)
  | _ => ([], true, true)

def stat2 (pw : Nat → Bool) (o : CO) (bs : List Nat × Bool × Bool) : Option (Nat × List Nat × List Nat) :=
  match o.k with
  | .store .. => if bs.1.isEmpty then some (2, gRd o ++ (o.k.ops.flatMap xs1), o.dst.toList) else some (0, gRd o ++ (o.k.ops.flatMap xs1 ++ bs.1), o.dst.toList ++ bs.1)
  | .newO _ | .boxO _ | .mkO .. | .makeS .. | .s2b .. | .app .. => some (if bs.2.2 then 1 else 2, gRd o ++ (o.k.ops.flatMap xs1), o.dst.toList)
  | .cpy .. | .clr .. => some (2, gRd o ++ (o.k.ops.flatMap xs1), o.dst.toList)
  | .call f args => some (if pw f && bs.2.2 then 1 else 2, gRd o ++ (args.flatMap xs1), o.dst.toList)
  | .callV x args => some (2, gRd o ++ ((x :: args).flatMap xs1), o.dst.toList)
  | k => some (0, gRd o ++ (k.ops.flatMap xs1 ++ bs.1), o.dst.toList)

def chk21 (pw : Nat → Bool) (o : CO) (bs : List Nat × Bool × Bool) (o' : CO) (bs' : List Nat × Bool × Bool) : Bool :=
  o'.pre.contains o.ix ||
  match stat2 pw o bs, stat2 pw o' bs' with
  | some a, some b => disj a.2.2 b.2.1 && disj b.2.2 a.2.1 && disj a.2.2 b.2.2 && (a.1 == 0 || b.1 == 0) && (a.1 == 0 || bs'.2.1 || (a.1 == 1 && bs'.2.2)) && (b.1 == 0 || bs.2.1 || (b.1 == 1 && bs.2.2)) && !(isN o && isN o')
  | _, _ => false

def chk2 (pw : Nat → Bool) : List CO → List (List Nat × Bool × Bool) → Bool
  | [], [] => true
  | o :: os, b :: bs => ((os.zip bs).all fun p => chk21 pw o b p.1 p.2) && chk2 pw os bs
  | _, _ => false

def wpD4 (E : Env) (m : Md) (ops : List CO) (n0 : Nat) : List CO → St → List (List Nat × Bool × Bool) → (St → Prop) → Prop
  | [], s, acc, Q => chk2 E.pw ops acc.reverse = true ∧ Q s
  | o :: os, s, acc, Q => wpO E m true s o fun s' => wpD4 E m ops n0 os s' (box2 n0 s o :: acc) Q

section
variable {E : Env} {m : Md} {n0 : Nat}

theorem inf2n {pw : Nat → Bool} {s : St} {o : CO} {a : Nat × List Nat × List Nat} {k : CK} (n0 : Nat) (hk : o.k = k) (hi : infK pw s k = { rd := k.ops.flatMap xs1, wt := [], hr := [], he := 1, ha := [], hb := s.H.length }) (hb : (match k with | .newO _ | .boxO _ | .mkO .. | .makeS .. | .s2b .. => true | _ => false) = true) (hc : (match k with | .call .. => false | _ => true) = true) (h : stat2 pw o (box2 n0 s o) = some a) :
    (a.1 = 0 → (infK pw s k).he = 0) ∧ (a.1 = 1 → (infK pw s k).he = 0 ∨ ((infK pw s k).he = 1 ∧ n0 ≤ (infK pw s k).hb) ∨ ((infK pw s k).he = 2 ∧ n0 ≤ (infK pw s k).hb ∧ ∀ id ∈ (infK pw s k).ha, n0 ≤ id)) ∧ ((infK pw s k).gn = true → isN o = true) ∧ (∀ x ∈ gRd o ++ (infK pw s k).rd, x ∈ a.2.1) ∧ (∀ x ∈ o.dst.toList ++ (infK pw s k).wt, x ∈ a.2.2) ∧ ((box2 n0 s o).2.1 = true → (infK pw s k).hr = []) ∧
      ((∀ f args, k ≠ .call f args) → (box2 n0 s o).2.2 = true → ∀ id ∈ (infK pw s k).hr, id < n0) ∧ ((∃ f args, k = .call f args) → (infK pw s k).hr = []) := by
  have hbx : box2 n0 s o = ([], true, decide (n0 ≤ s.H.length)) := by
    unfold box2
    rw [hk]
    cases k <;> first | rfl | cases hb
  have hst : stat2 pw o (box2 n0 s o) = some (if decide (n0 ≤ s.H.length) then 1 else 2, gRd o ++ (k.ops.flatMap xs1), o.dst.toList) := by
    rw [hbx]
    unfold stat2
    rw [hk]
    cases k <;> first | rfl | cases hb
  rw [hst] at h
  have h := Option.some.inj h
  subst h
  rw [hi]
  refine ⟨fun h => ?_, fun h => ?_, by simp, fun x hx => hx, fun x hx => by simpa using hx, by simp, by simp, by simp⟩
  · exfalso
    revert h
    simp only
    split <;> simp
  · revert h
    simp only
    split
    · rename_i h2
      intro _
      exact .inr (.inl ⟨trivial, by simpa using h2⟩)
    · simp
theorem inf2 {pw : Nat → Bool} {s : St} {o : CO} {a : Nat × List Nat × List Nat} (h : stat2 pw o (box2 n0 s o) = some a) :
    (a.1 = 0 → (infO pw s o).he = 0) ∧ (a.1 = 1 → (infO pw s o).he = 0 ∨ ((infO pw s o).he = 1 ∧ n0 ≤ (infO pw s o).hb) ∨ ((infO pw s o).he = 2 ∧ n0 ≤ (infO pw s o).hb ∧ ∀ id ∈ (infO pw s o).ha, n0 ≤ id)) ∧ ((infO pw s o).gn = true → isN o = true) ∧ (∀ x ∈ (infO pw s o).rd, x ∈ a.2.1) ∧ (∀ x ∈ (infO pw s o).wt, x ∈ a.2.2) ∧ ((box2 n0 s o).2.1 = true → (infO pw s o).hr = []) ∧
      ((stat2 pw o (box2 n0 s o)).isSome = true → (∀ f args, o.k ≠ .call f args) → (box2 n0 s o).2.2 = true → ∀ id ∈ (infO pw s o).hr, id < n0) ∧ ((∃ f args, o.k = .call f args) → (infO pw s o).hr = []) := by
  unfold infO
  have full : (a.1 = 0 → (infK pw s o.k).he = 0) ∧ (a.1 = 1 → (infK pw s o.k).he = 0 ∨ ((infK pw s o.k).he = 1 ∧ n0 ≤ (infK pw s o.k).hb) ∨ ((infK pw s o.k).he = 2 ∧ n0 ≤ (infK pw s o.k).hb ∧ ∀ id ∈ (infK pw s o.k).ha, n0 ≤ id)) ∧ ((infK pw s o.k).gn = true → isN o = true) ∧ (∀ x ∈ gRd o ++ (infK pw s o.k).rd, x ∈ a.2.1) ∧ (∀ x ∈ o.dst.toList ++ (infK pw s o.k).wt, x ∈ a.2.2) ∧ ((box2 n0 s o).2.1 = true → (infK pw s o.k).hr = []) ∧
      ((∀ f args, o.k ≠ .call f args) → (box2 n0 s o).2.2 = true → ∀ id ∈ (infK pw s o.k).hr, id < n0) ∧ ((∃ f args, o.k = .call f args) → (infK pw s o.k).hr = []) := by
    cases hk : o.k with
    | call f args =>
      unfold stat2 box2 at h
      rw [hk] at h
      simp only [Option.some.injEq] at h
      subst h
      unfold box2 infK
      rw [hk]
      simp only
      rcases Option.eq_none_or_eq_some (exvs s.ρ args) with hvs | ⟨vs, hvs⟩
      · simp only [callee, hvs, Option.isSome_none, Bool.false_and, Bool.and_false]
        refine ⟨by simp, by simp, by simp, fun x hx => hx, fun x hx => by simpa using hx, by simp, fun h => absurd rfl (h f args), by simp⟩
      · simp only [callee, hvs, Option.isSome_some, Bool.true_and]
        cases hpw : pw f with
        | true =>
          simp only [Bool.true_and, if_true]
          refine ⟨fun h => ?_, fun h => ?_, by simp, fun x hx => hx, fun x hx => by simpa using hx, by simp, fun h => absurd rfl (h f args), by simp⟩
          · split at h <;> simp at h
          · split at h
            · rename_i h2; exact .inr (.inl (by simpa using h2))
            · simp at h
        | false =>
          simp only [Bool.false_and, Bool.false_eq_true, if_false]
          exact ⟨by simp, by simp, by simp, fun x hx => hx, fun x hx => by simpa using hx, by simp, fun h => absurd rfl (h f args), by simp⟩
    | callV x args =>
      have hinf : (infK pw s (.callV x args)).gn = false ∧ (infK pw s (.callV x args)).rd = (CK.callV x args).ops.flatMap xs1 ∧ (infK pw s (.callV x args)).wt = [] ∧ (infK pw s (.callV x args)).hr = [] := by
        unfold infK
        simp only
        split
        · split <;> exact ⟨rfl, rfl, rfl, rfl⟩
        · exact ⟨rfl, rfl, rfl, rfl⟩
      obtain ⟨h1, h2, h3, h4⟩ := hinf
      unfold stat2 box2 at h
      rw [hk] at h
      simp only [Option.some.injEq] at h
      subst h
      rw [h1, h2, h3, h4]
      exact ⟨fun h => absurd h (by simp), fun h => absurd h (by simp), fun h => (Bool.noConfusion h), fun x hx => hx, fun x hx => by simpa using hx, fun _ => rfl, fun _ _ id hid => by simp at hid, fun _ => rfl⟩
    | store n x y =>
      unfold stat2 box2 at h
      unfold box2 infK
      rw [hk] at h ⊢
      simp only at h ⊢
      unfold adInf at h
      cases hadr : adr s.ρ x with
      | none =>
        rw [hadr] at h
        simp only [List.isEmpty_nil, if_true, Option.some.injEq] at h
        subst h
        simp
      | some ad =>
        cases ad with
        | hp id p e =>
          rw [hadr] at h
          simp only [List.isEmpty_nil, if_true, Option.some.injEq] at h
          subst h
          simp
        | box t p e =>
          rw [hadr] at h
          simp only [List.isEmpty_cons, if_false, Option.some.injEq, Bool.false_eq_true] at h
          subst h
          simp
    | app esz bytes x y =>
      unfold stat2 box2 at h
      unfold box2 infK
      rw [hk] at h ⊢
      simp only [Option.some.injEq] at h
      subst h
      refine ⟨fun h => ?_, fun h => ?_, by simp, fun x hx => hx, fun x hx => by simpa using hx, by simp, by simp, by simp⟩
      · exfalso
        revert h
        simp only
        split <;> simp
      · revert h
        simp only
        split
        · rename_i h2
          intro _
          rw [Bool.and_eq_true] at h2
          refine .inr (.inr ⟨trivial, by simpa using h2.1, ?_⟩)
          rcases Option.eq_none_or_eq_some (exv s.ρ x) with he | ⟨v, he⟩
          · rw [he] at h2; simp at h2
          · rw [he] at h2 ⊢
            have h3 := h2.2
            simp only [Option.map_some, beq_iff_eq, Option.some.injEq, List.all_eq_true, decide_eq_true_eq] at h3
            exact h3
        · simp
    | newO zero => exact inf2n n0 hk rfl rfl rfl h
    | boxO x => exact inf2n n0 hk rfl rfl rfl h
    | mkO len esz zero parts => exact inf2n n0 hk rfl rfl rfl h
    | makeS esz bytes zero l c => exact inf2n n0 hk rfl rfl rfl h
    | s2b esz x => exact inf2n n0 hk rfl rfl rfl h
    | _ =>
      unfold stat2 box2 at h
      unfold box2 infK
      rw [hk] at h ⊢
      first
        | (simp only [reduceCtorEq] at h; done)
        | (simp only [Option.some.injEq] at h; subst h; simp [isN, hk])
  have off : (∀ x ∈ gRd o, x ∈ a.2.1) ∧ ∀ x ∈ o.dst.toList, x ∈ a.2.2 := ⟨fun x hx => full.2.2.2.1 x (List.mem_append_left _ hx), fun x hx => full.2.2.2.2.1 x (List.mem_append_left _ hx)⟩
  split
  · exact ⟨full.1, full.2.1, full.2.2.1, full.2.2.2.1, full.2.2.2.2.1, full.2.2.2.2.2.1, fun _ => full.2.2.2.2.2.2.1, full.2.2.2.2.2.2.2⟩
  · exact ⟨fun _ => rfl, fun _ => .inl rfl, fun h => (Bool.noConfusion h), off.1, off.2, fun _ => rfl, fun _ _ _ id hid => by simp at hid, fun _ => rfl⟩

theorem old2 {pw : Nat → Bool} {s : St} {o : CO} {a : Nat × List Nat × List Nat} (h : stat2 pw o (box2 n0 s o) = some a) (hb : (box2 n0 s o).2.2 = true) : ∀ id ∈ (infO pw s o).hr, id < n0 := by
  obtain ⟨_, _, _, _, _, _, h1, h2⟩ := inf2 h
  by_cases hc : ∃ f args, o.k = .call f args
  · rw [h2 hc]; intro id hid; simp at hid
  · exact h1 (by rw [h]; rfl) (fun f args e => hc ⟨f, args, e⟩) hb

theorem calm_old {a b : Inf} (h : a.he = 0 ∨ (a.he = 1 ∧ n0 ≤ a.hb) ∨ (a.he = 2 ∧ n0 ≤ a.hb ∧ ∀ id ∈ a.ha, n0 ≤ id)) (hb : ∀ id ∈ b.hr, id < n0) : a.calm b = true := by
  unfold Inf.calm
  rcases h with h | ⟨h, h2⟩ | ⟨h, h2, h3⟩ <;> rw [h]
  · rfl
  · simp only [List.all_eq_true, decide_eq_true_eq]
    exact fun id hid => Nat.lt_of_lt_of_le (hb id hid) h2
  · simp only [List.all_eq_true, Bool.and_eq_true, decide_eq_true_eq, Bool.not_eq_true', List.contains_eq_mem, decide_eq_false_iff_not]
    exact fun id hid => ⟨Nat.lt_of_lt_of_le (hb id hid) h2, fun hm => by have := h3 id hm; have := hb id hid; omega⟩

theorem apart2 {pw : Nat → Bool} {s s' : St} {o o' : CO} (h : chk21 pw o (box2 n0 s o) o' (box2 n0 s' o') = true) : (o'.pre.contains o.ix || (infO pw s o).apart (infO pw s' o')) = true := by
  unfold chk21 at h
  rw [Bool.or_eq_true] at h ⊢
  rcases h with h | h
  · exact .inl h
  · refine .inr ?_
    split at h
    · rename_i a b ha hb
      obtain ⟨a1, a2, a3, a4, a5, a6, _⟩ := inf2 (pw := pw) ha
      obtain ⟨b1, b2, b3, b4, b5, b6, _⟩ := inf2 (pw := pw) hb
      simp only [Bool.and_eq_true, Bool.or_eq_true, beq_iff_eq] at h
      obtain ⟨⟨⟨⟨⟨⟨h1, h2⟩, h3⟩, h4⟩, h5⟩, h6⟩, h8⟩ := h
      unfold Inf.apart
      have c1 : (infO pw s o).calm (infO pw s' o') = true := by
        rcases h5 with (h5 | h5) | ⟨h5, h7⟩
        · unfold Inf.calm; rw [a1 h5]; rfl
        · exact calm_nil (b6 h5)
        · exact calm_old (a2 h5) (old2 hb h7)
      have c2 : (infO pw s' o').calm (infO pw s o) = true := by
        rcases h6 with (h6 | h6) | ⟨h6, h7⟩
        · unfold Inf.calm; rw [b1 h6]; rfl
        · exact calm_nil (a6 h6)
        · exact calm_old (b2 h6) (old2 ha h7)
      have c3 : ((infO pw s o).he == 0 || (infO pw s' o').he == 0) = true := by
        rcases h4 with h4 | h4
        · rw [a1 h4]; rfl
        · rw [b1 h4]; simp
      have c4 : (!((infO pw s o).gn && (infO pw s' o').gn)) = true := by
        cases g1 : (infO pw s o).gn with
        | false => rfl
        | true =>
          cases g2 : (infO pw s' o').gn with
          | false => rfl
          | true =>
            rw [a3 g1, b3 g2] at h8
            exact absurd h8 (by decide)
      rw [c1, c2, c3, c4, disj_sub h1 a5 b4, disj_sub h2 b5 a4, disj_sub h3 a5 b5]
      rfl
    · cases h

theorem chk2_apart {pw : Nat → Bool} : ∀ {l : List (CO × St)}, chk2 pw (l.map (·.1)) (l.map fun p => box2 n0 p.2 p.1) = true → allApart (l.map fun p => (p.1, infO pw p.2 p.1)) = true
  | [], _ => rfl
  | (o, s) :: l, h => by
    simp only [List.map_cons, chk2, Bool.and_eq_true] at h
    simp only [List.map_cons, allApart, Bool.and_eq_true]
    refine ⟨?_, chk2_apart h.2⟩
    have h1 := h.1
    rw [List.zip_map', List.all_eq_true] at h1
    rw [List.all_eq_true]
    intro p hp
    obtain ⟨q, hq, rfl⟩ := List.mem_map.1 hp
    exact apart2 (h1 _ (List.mem_map.2 ⟨q, hq, rfl⟩))

theorem wpD4_wpD {ops : List CO} : ∀ {os : List CO} {s : St} {l : List (CO × St)} {Q : St → Prop}, ops = l.map (·.1) ++ os → wpD4 E m ops n0 os s (l.map fun p => box2 n0 p.2 p.1).reverse Q → wpD E m os s (l.map fun p => (p.1, infO E.pw p.2 p.1)).reverse Q
  | [], s, l, Q, he, h => by
    simp only [wpD4] at h
    simp only [wpD]
    rw [List.reverse_reverse] at h ⊢
    rw [he, List.append_nil] at h
    exact ⟨chk2_apart h.1, h.2⟩
  | o :: os, s, l, Q, he, h => by
    simp only [wpD4] at h
    simp only [wpD]
    refine wpO_mono h fun s' h' => ?_
    have := wpD4_wpD (ops := ops) (l := l ++ [(o, s)]) (os := os) (s := s') (Q := Q) (by simp [he]) (by simpa using h')
    simpa using this

theorem wpD4_easy {ops : List CO} {s : St} {Q : St → Prop} (h : wpD4 E m ops n0 ops s [] Q) : wpD E m ops s [] Q := wpD4_wpD (l := []) rfl h
end

/-- .. the same, where calls may stand beside readings of rows in a window, if they write outside of it. -/
def box3 (wl wh : Nat) (s : St) (o : CO) : List Nat × Bool × Bool :=
  match o.k with
  | .load _ _ x => ((adInf s.ρ x).1, (adInf s.ρ x).2.isEmpty, (adInf s.ρ x).2.all fun id => decide (wl ≤ id) && decide (id < wh))
  | .fadr _ x | .iadrA _ _ x _ => ((adInf s.ρ x).1, true, true)
  | .b2s _ => ([], false, false)
  | .store _ x _ => ((adInf s.ρ x).1, true, true)
  | .call _ args => ([], true, decide (wh ≤ s.H.length) && ((exvs s.ρ args).map fun vs => (vs.flatMap idsOf).all fun id => decide (id < wl) || decide (wh ≤ id)) == some true)
  | .newO _ | .boxO _ | .mkO .. | .makeS .. | .s2b .. => ([], true, decide (wh ≤ s.H.length))
  | .app _ _ x _ => ([], true, decide (wh ≤ s.H.length) && ((exv s.ρ x).map fun v => (idsOf v).all fun id => decide (id < wl) || decide (wh ≤ id)) == some true)
  | _ => ([], true, true)

def stat3 (pw : Nat → Bool) (o : CO) (bs : List Nat × Bool × Bool) : Option (Nat × List Nat × List Nat) :=
  match o.k with
  | .store .. => if bs.1.isEmpty then some (2, gRd o ++ (o.k.ops.flatMap xs1), o.dst.toList) else some (0, gRd o ++ (o.k.ops.flatMap xs1 ++ bs.1), o.dst.toList ++ bs.1)
  | .newO _ | .boxO _ | .mkO .. | .makeS .. | .s2b .. | .app .. => some (if bs.2.2 then 1 else 2, gRd o ++ (o.k.ops.flatMap xs1), o.dst.toList)
  | .cpy .. | .clr .. => some (2, gRd o ++ (o.k.ops.flatMap xs1), o.dst.toList)
  | .call f args => some (if bs.2.2 then 1 else 2, gRd o ++ (args.flatMap xs1), o.dst.toList)
  | .callV x args => some (2, gRd o ++ ((x :: args).flatMap xs1), o.dst.toList)
  | k => some (0, gRd o ++ (k.ops.flatMap xs1 ++ bs.1), o.dst.toList)

def chk31 (pw : Nat → Bool) (o : CO) (bs : List Nat × Bool × Bool) (o' : CO) (bs' : List Nat × Bool × Bool) : Bool :=
  o'.pre.contains o.ix ||
  match stat3 pw o bs, stat3 pw o' bs' with
  | some a, some b => disj a.2.2 b.2.1 && disj b.2.2 a.2.1 && disj a.2.2 b.2.2 && (a.1 == 0 || b.1 == 0) && (a.1 == 0 || bs'.2.1 || (a.1 == 1 && bs'.2.2)) && (b.1 == 0 || bs.2.1 || (b.1 == 1 && bs.2.2)) && !(isN o && isN o')
  | _, _ => false

def chk3 (pw : Nat → Bool) : List CO → List (List Nat × Bool × Bool) → Bool
  | [], [] => true
  | o :: os, b :: bs => ((os.zip bs).all fun p => chk31 pw o b p.1 p.2) && chk3 pw os bs
  | _, _ => false

def wpD5 (E : Env) (m : Md) (ops : List CO) (wl wh : Nat) : List CO → St → List (List Nat × Bool × Bool) → (St → Prop) → Prop
  | [], s, acc, Q => chk3 E.pw ops acc.reverse = true ∧ Q s
  | o :: os, s, acc, Q => wpO E m true s o fun s' => wpD5 E m ops wl wh os s' (box3 wl wh s o :: acc) Q

section
variable {E : Env} {m : Md} {wl wh : Nat}

theorem inf3n {pw : Nat → Bool} {s : St} {o : CO} {a : Nat × List Nat × List Nat} {k : CK} (wl wh : Nat) (hk : o.k = k) (hi : infK pw s k = { rd := k.ops.flatMap xs1, wt := [], hr := [], he := 1, ha := [], hb := s.H.length }) (hb : (match k with | .newO _ | .boxO _ | .mkO .. | .makeS .. | .s2b .. => true | _ => false) = true) (hc : (match k with | .call .. => false | _ => true) = true) (h : stat3 pw o (box3 wl wh s o) = some a) :
    (a.1 = 0 → (infK pw s k).he = 0) ∧ (a.1 = 1 → (infK pw s k).he = 0 ∨ ((infK pw s k).he = 1 ∧ wh ≤ (infK pw s k).hb) ∨ ((infK pw s k).he = 2 ∧ wh ≤ (infK pw s k).hb ∧ ∀ id ∈ (infK pw s k).ha, id < wl ∨ wh ≤ id)) ∧ ((infK pw s k).gn = true → isN o = true) ∧ (∀ x ∈ gRd o ++ (infK pw s k).rd, x ∈ a.2.1) ∧ (∀ x ∈ o.dst.toList ++ (infK pw s k).wt, x ∈ a.2.2) ∧ ((box3 wl wh s o).2.1 = true → (infK pw s k).hr = []) ∧
      ((∀ f args, k ≠ .call f args) → (box3 wl wh s o).2.2 = true → ∀ id ∈ (infK pw s k).hr, wl ≤ id ∧ id < wh) ∧ ((∃ f args, k = .call f args) → (infK pw s k).hr = []) := by
  have hbx : box3 wl wh s o = ([], true, decide (wh ≤ s.H.length)) := by
    unfold box3
    rw [hk]
    cases k <;> first | rfl | cases hb
  have hst : stat3 pw o (box3 wl wh s o) = some (if decide (wh ≤ s.H.length) then 1 else 2, gRd o ++ (k.ops.flatMap xs1), o.dst.toList) := by
    rw [hbx]
    unfold stat3
    rw [hk]
    cases k <;> first | rfl | cases hb
  rw [hst] at h
  have h := Option.some.inj h
  subst h
  rw [hi]
  refine ⟨fun h => ?_, fun h => ?_, by simp, fun x hx => hx, fun x hx => by simpa using hx, by simp, by simp, by simp⟩
  · exfalso
    revert h
    simp only
    split <;> simp
  · revert h
    simp only
    split
    · rename_i h2
      intro _
      exact .inr (.inl ⟨trivial, by simpa using h2⟩)
    · simp
theorem inf3 {pw : Nat → Bool} {s : St} {o : CO} {a : Nat × List Nat × List Nat} (h : stat3 pw o (box3 wl wh s o) = some a) :
    (a.1 = 0 → (infO pw s o).he = 0) ∧ (a.1 = 1 → (infO pw s o).he = 0 ∨ ((infO pw s o).he = 1 ∧ wh ≤ (infO pw s o).hb) ∨ ((infO pw s o).he = 2 ∧ wh ≤ (infO pw s o).hb ∧ ∀ id ∈ (infO pw s o).ha, id < wl ∨ wh ≤ id)) ∧ ((infO pw s o).gn = true → isN o = true) ∧ (∀ x ∈ (infO pw s o).rd, x ∈ a.2.1) ∧ (∀ x ∈ (infO pw s o).wt, x ∈ a.2.2) ∧ ((box3 wl wh s o).2.1 = true → (infO pw s o).hr = []) ∧
      ((stat3 pw o (box3 wl wh s o)).isSome = true → (∀ f args, o.k ≠ .call f args) → (box3 wl wh s o).2.2 = true → ∀ id ∈ (infO pw s o).hr, wl ≤ id ∧ id < wh) ∧ ((∃ f args, o.k = .call f args) → (infO pw s o).hr = []) := by
  unfold infO
  have full : (a.1 = 0 → (infK pw s o.k).he = 0) ∧ (a.1 = 1 → (infK pw s o.k).he = 0 ∨ ((infK pw s o.k).he = 1 ∧ wh ≤ (infK pw s o.k).hb) ∨ ((infK pw s o.k).he = 2 ∧ wh ≤ (infK pw s o.k).hb ∧ ∀ id ∈ (infK pw s o.k).ha, id < wl ∨ wh ≤ id)) ∧ ((infK pw s o.k).gn = true → isN o = true) ∧ (∀ x ∈ gRd o ++ (infK pw s o.k).rd, x ∈ a.2.1) ∧ (∀ x ∈ o.dst.toList ++ (infK pw s o.k).wt, x ∈ a.2.2) ∧ ((box3 wl wh s o).2.1 = true → (infK pw s o.k).hr = []) ∧
      ((∀ f args, o.k ≠ .call f args) → (box3 wl wh s o).2.2 = true → ∀ id ∈ (infK pw s o.k).hr, wl ≤ id ∧ id < wh) ∧ ((∃ f args, o.k = .call f args) → (infK pw s o.k).hr = []) := by
    cases hk : o.k with
    | call f args =>
      unfold stat3 box3 at h
      rw [hk] at h
      simp only [Option.some.injEq] at h
      subst h
      unfold box3 infK
      rw [hk]
      simp only
      rcases Option.eq_none_or_eq_some (exvs s.ρ args) with hvs | ⟨vs, hvs⟩
      · simp only [callee, hvs, Option.map_none]
        have : ((none : Option Bool) == some true) = false := rfl
        simp only [this, Bool.and_false, Bool.false_eq_true, if_false]
        refine ⟨by simp, by simp, by simp, fun x hx => hx, fun x hx => by simpa using hx, by simp, fun h => absurd rfl (h f args), by simp⟩
      · simp only [callee, hvs]
        cases hpw : pw f with
        | true =>
          simp only [if_true]
          refine ⟨fun h => ?_, fun h => ?_, by simp, fun x hx => hx, fun x hx => by simpa using hx, by simp, fun h => absurd rfl (h f args), by simp⟩
          · split at h <;> simp at h
          · split at h
            · rename_i h2
              rw [Bool.and_eq_true] at h2
              exact .inr (.inl ⟨trivial, by simpa using h2.1⟩)
            · simp at h
        | false =>
          simp only [Bool.false_eq_true, if_false]
          refine ⟨fun h => ?_, fun h => ?_, by simp, fun x hx => hx, fun x hx => by simpa using hx, by simp, fun h => absurd rfl (h f args), by simp⟩
          · split at h <;> simp at h
          · split at h
            · rename_i h2
              rw [Bool.and_eq_true] at h2
              refine .inr (.inr ⟨trivial, by simpa using h2.1, ?_⟩)
              have h3 := h2.2
              simp only [Option.map_some, beq_iff_eq, Option.some.injEq, List.all_eq_true, Bool.or_eq_true, decide_eq_true_eq] at h3
              exact h3
            · simp at h
    | callV x args =>
      have hinf : (infK pw s (.callV x args)).gn = false ∧ (infK pw s (.callV x args)).rd = (CK.callV x args).ops.flatMap xs1 ∧ (infK pw s (.callV x args)).wt = [] ∧ (infK pw s (.callV x args)).hr = [] := by
        unfold infK
        simp only
        split
        · split <;> exact ⟨rfl, rfl, rfl, rfl⟩
        · exact ⟨rfl, rfl, rfl, rfl⟩
      obtain ⟨h1, h2, h3, h4⟩ := hinf
      unfold stat3 box3 at h
      rw [hk] at h
      simp only [Option.some.injEq] at h
      subst h
      rw [h1, h2, h3, h4]
      exact ⟨fun h => absurd h (by simp), fun h => absurd h (by simp), fun h => (Bool.noConfusion h), fun x hx => hx, fun x hx => by simpa using hx, fun _ => rfl, fun _ _ id hid => by simp at hid, fun _ => rfl⟩
    | store n x y =>
      unfold stat3 box3 at h
      unfold box3 infK
      rw [hk] at h ⊢
      simp only at h ⊢
      unfold adInf at h
      cases hadr : adr s.ρ x with
      | none =>
        rw [hadr] at h
        simp only [List.isEmpty_nil, if_true, Option.some.injEq] at h
        subst h
        simp
      | some ad =>
        cases ad with
        | hp id p e =>
          rw [hadr] at h
          simp only [List.isEmpty_nil, if_true, Option.some.injEq] at h
          subst h
          simp
        | box t p e =>
          rw [hadr] at h
          simp only [List.isEmpty_cons, if_false, Option.some.injEq, Bool.false_eq_true] at h
          subst h
          simp
    | app esz bytes x y =>
      unfold stat3 box3 at h
      unfold box3 infK
      rw [hk] at h ⊢
      simp only [Option.some.injEq] at h
      subst h
      refine ⟨fun h => ?_, fun h => ?_, by simp, fun x hx => hx, fun x hx => by simpa using hx, by simp, by simp, by simp⟩
      · exfalso
        revert h
        simp only
        split <;> simp
      · revert h
        simp only
        split
        · rename_i h2
          intro _
          rw [Bool.and_eq_true] at h2
          refine .inr (.inr ⟨trivial, by simpa using h2.1, ?_⟩)
          rcases Option.eq_none_or_eq_some (exv s.ρ x) with he | ⟨v, he⟩
          · rw [he] at h2; simp at h2
          · rw [he] at h2 ⊢
            have h3 := h2.2
            simp only [Option.map_some, beq_iff_eq, Option.some.injEq, List.all_eq_true, Bool.or_eq_true, decide_eq_true_eq] at h3
            exact h3
        · simp
    | newO zero => exact inf3n wl wh hk rfl rfl rfl h
    | boxO x => exact inf3n wl wh hk rfl rfl rfl h
    | mkO len esz zero parts => exact inf3n wl wh hk rfl rfl rfl h
    | makeS esz bytes zero l c => exact inf3n wl wh hk rfl rfl rfl h
    | s2b esz x => exact inf3n wl wh hk rfl rfl rfl h
    | _ =>
      unfold stat3 box3 at h
      unfold box3 infK
      rw [hk] at h ⊢
      first
        | (simp only [reduceCtorEq] at h; done)
        | (simp only [Option.some.injEq] at h; subst h; simp [isN, hk])
  have off : (∀ x ∈ gRd o, x ∈ a.2.1) ∧ ∀ x ∈ o.dst.toList, x ∈ a.2.2 := ⟨fun x hx => full.2.2.2.1 x (List.mem_append_left _ hx), fun x hx => full.2.2.2.2.1 x (List.mem_append_left _ hx)⟩
  split
  · exact ⟨full.1, full.2.1, full.2.2.1, full.2.2.2.1, full.2.2.2.2.1, full.2.2.2.2.2.1, fun _ => full.2.2.2.2.2.2.1, full.2.2.2.2.2.2.2⟩
  · exact ⟨fun _ => rfl, fun _ => .inl rfl, fun h => (Bool.noConfusion h), off.1, off.2, fun _ => rfl, fun _ _ _ id hid => by simp at hid, fun _ => rfl⟩

theorem old3 {pw : Nat → Bool} {s : St} {o : CO} {a : Nat × List Nat × List Nat} (h : stat3 pw o (box3 wl wh s o) = some a) (hb : (box3 wl wh s o).2.2 = true) : ∀ id ∈ (infO pw s o).hr, wl ≤ id ∧ id < wh := by
  obtain ⟨_, _, _, _, _, _, h1, h2⟩ := inf3 h
  by_cases hc : ∃ f args, o.k = .call f args
  · rw [h2 hc]; intro id hid; simp at hid
  · exact h1 (by rw [h]; rfl) (fun f args e => hc ⟨f, args, e⟩) hb

theorem calm_old3 {a b : Inf} (h : a.he = 0 ∨ (a.he = 1 ∧ wh ≤ a.hb) ∨ (a.he = 2 ∧ wh ≤ a.hb ∧ ∀ id ∈ a.ha, id < wl ∨ wh ≤ id)) (hb : ∀ id ∈ b.hr, wl ≤ id ∧ id < wh) : a.calm b = true := by
  unfold Inf.calm
  rcases h with h | ⟨h, h2⟩ | ⟨h, h2, h3⟩ <;> rw [h]
  · rfl
  · simp only [List.all_eq_true, decide_eq_true_eq]
    exact fun id hid => Nat.lt_of_lt_of_le (hb id hid).2 h2
  · simp only [List.all_eq_true, Bool.and_eq_true, decide_eq_true_eq, Bool.not_eq_true', List.contains_eq_mem, decide_eq_false_iff_not]
    exact fun id hid => ⟨Nat.lt_of_lt_of_le (hb id hid).2 h2, fun hm => by have := h3 id hm; have := hb id hid; omega⟩

theorem apart3 {pw : Nat → Bool} {s s' : St} {o o' : CO} (h : chk31 pw o (box3 wl wh s o) o' (box3 wl wh s' o') = true) : (o'.pre.contains o.ix || (infO pw s o).apart (infO pw s' o')) = true := by
  unfold chk31 at h
  rw [Bool.or_eq_true] at h ⊢
  rcases h with h | h
  · exact .inl h
  · refine .inr ?_
    split at h
    · rename_i a b ha hb
      obtain ⟨a1, a2, a3, a4, a5, a6, _⟩ := inf3 (pw := pw) ha
      obtain ⟨b1, b2, b3, b4, b5, b6, _⟩ := inf3 (pw := pw) hb
      simp only [Bool.and_eq_true, Bool.or_eq_true, beq_iff_eq] at h
      obtain ⟨⟨⟨⟨⟨⟨h1, h2⟩, h3⟩, h4⟩, h5⟩, h6⟩, h8⟩ := h
      unfold Inf.apart
      have c1 : (infO pw s o).calm (infO pw s' o') = true := by
        rcases h5 with (h5 | h5) | ⟨h5, h7⟩
        · unfold Inf.calm; rw [a1 h5]; rfl
        · exact calm_nil (b6 h5)
        · exact calm_old3 (a2 h5) (old3 hb h7)
      have c2 : (infO pw s' o').calm (infO pw s o) = true := by
        rcases h6 with (h6 | h6) | ⟨h6, h7⟩
        · unfold Inf.calm; rw [b1 h6]; rfl
        · exact calm_nil (a6 h6)
        · exact calm_old3 (b2 h6) (old3 ha h7)
      have c3 : ((infO pw s o).he == 0 || (infO pw s' o').he == 0) = true := by
        rcases h4 with h4 | h4
        · rw [a1 h4]; rfl
        · rw [b1 h4]; simp
      have c4 : (!((infO pw s o).gn && (infO pw s' o').gn)) = true := by
        cases g1 : (infO pw s o).gn with
        | false => rfl
        | true =>
          cases g2 : (infO pw s' o').gn with
          | false => rfl
          | true =>
            rw [a3 g1, b3 g2] at h8
            exact absurd h8 (by decide)
      rw [c1, c2, c3, c4, disj_sub h1 a5 b4, disj_sub h2 b5 a4, disj_sub h3 a5 b5]
      rfl
    · cases h

theorem chk3_apart {pw : Nat → Bool} : ∀ {l : List (CO × St)}, chk3 pw (l.map (·.1)) (l.map fun p => box3 wl wh p.2 p.1) = true → allApart (l.map fun p => (p.1, infO pw p.2 p.1)) = true
  | [], _ => rfl
  | (o, s) :: l, h => by
    simp only [List.map_cons, chk3, Bool.and_eq_true] at h
    simp only [List.map_cons, allApart, Bool.and_eq_true]
    refine ⟨?_, chk3_apart h.2⟩
    have h1 := h.1
    rw [List.zip_map', List.all_eq_true] at h1
    rw [List.all_eq_true]
    intro p hp
    obtain ⟨q, hq, rfl⟩ := List.mem_map.1 hp
    exact apart3 (h1 _ (List.mem_map.2 ⟨q, hq, rfl⟩))

theorem wpD5_wpD {ops : List CO} : ∀ {os : List CO} {s : St} {l : List (CO × St)} {Q : St → Prop}, ops = l.map (·.1) ++ os → wpD5 E m ops wl wh os s (l.map fun p => box3 wl wh p.2 p.1).reverse Q → wpD E m os s (l.map fun p => (p.1, infO E.pw p.2 p.1)).reverse Q
  | [], s, l, Q, he, h => by
    simp only [wpD5] at h
    simp only [wpD]
    rw [List.reverse_reverse] at h ⊢
    rw [he, List.append_nil] at h
    exact ⟨chk3_apart h.1, h.2⟩
  | o :: os, s, l, Q, he, h => by
    simp only [wpD5] at h
    simp only [wpD]
    refine wpO_mono h fun s' h' => ?_
    have := wpD5_wpD (ops := ops) (l := l ++ [(o, s)]) (os := os) (s := s') (Q := Q) (by simp [he]) (by simpa using h')
    simpa using this

theorem wpD5_easy {ops : List CO} {s : St} {Q : St → Prop} (h : wpD5 E m ops wl wh ops s [] Q) : wpD E m ops s [] Q := wpD5_wpD (l := []) rfl h
end

end Go.Proofs.Ytceilcdhflcbpaa.Ev

/- Code as a row of tasks: each step leaves a row of tasks behind, so that plain rewriting walks it. -/
namespace Go.Proofs.Ytceilcdhflcbpaa.Ev
set_option linter.all false
open Go

inductive Tk where
  | c (c : CC)
  | o (draw : Bool) (o : CO)
  | r (os : List CO)
  | d (ops os : List CO) (acc : List (List Nat × Bool))
  | e (ops os : List CO) (acc : List (List Nat × Bool × Bool)) (n0 : Nat)
  | w (ops os : List CO) (acc : List (List Nat × Bool × Bool)) (lo hi : Nat)
  | blk (id : Nat)

section
variable (E : Env) (m : Md)

mutual
def go : List Tk → St → (Ex → St → Prop) → Prop
  | [], s, Q => Q .normal s
  | .c c :: ts, s, Q => wpC E m c s fun e s' => thr e ts s' Q
  | .o draw o :: ts, s, Q => wpO E m draw s o fun s' => go ts s' Q
  | .r os :: ts, s, Q => wpR E m os s fun s' => go ts s' Q
  | .d ops os acc :: ts, s, Q => wpD3 E m ops os s acc fun s' => go ts s' Q
  | .e ops os acc n0 :: ts, s, Q => wpD4 E m ops n0 os s acc fun s' => go ts s' Q
  | .w ops os acc lo hi :: ts, s, Q => wpD5 E m ops lo hi os s acc fun s' => go ts s' Q
  | .blk _ :: ts, s, Q => go ts s Q
termination_by ts => (ts.length, 1)
def thr : Ex → List Tk → St → (Ex → St → Prop) → Prop
  | .normal, ts, s, Q => go ts s Q
  | .ret, _, s, Q => Q .ret s
  | .exit j, [], s, Q => Q (.exit j) s
  | .exit j, .blk i :: ts, s, Q => if j = i then go ts s Q else thr (.exit j) ts s Q
  | .exit j, _ :: ts, s, Q => thr (.exit j) ts s Q
termination_by _ ts => (ts.length, 2)
end

/-- What an operation left, and the tasks from there. -/
def aft (r : Option (FV × St)) (dst : Option Nat) (ts : List Tk) (Q : Ex → St → Prop) : Prop :=
  match r with
  | some (v, s') => go E m ts { s' with ρ := upd s'.ρ dst v } Q
  | none => False

/-- A call, and the tasks behind it. -/
def callT (draw : Bool) (f : Nat) (vs : Option (List Value)) (s : St) (dst : Option Nat) (ts : List Tk) (Q : Ex → St → Prop) : Prop :=
  opt vs fun vs => Fun E (if draw then m.drawn E.pw s.H f vs else m) f vs s.H fun r H => go E m ts { s with H := H, ρ := upd s.ρ dst (.val r) } Q

def callVT (draw : Bool) (fv : Option Value) (vs : Option (List Value)) (s : St) (dst : Option Nat) (ts : List Tk) (Q : Ex → St → Prop) : Prop :=
  match fv with
  | some (.func (.func f) first caps) => if first.size = 0 then callT E m draw f (match vs with | some vs => some (vs ++ caps.toList) | none => none) s dst ts Q else False
  | _ => False

def stp (draw : Bool) (s : St) (k : CK) (dst : Option Nat) (ts : List Tk) (Q : Ex → St → Prop) : Prop :=
  match k with
  | .call f args => callT E m draw f (exvs s.ρ args) s dst ts Q
  | .callV x args => callVT E m draw (exv s.ρ x) (exvs s.ρ args) s dst ts Q
  | k => aft E m (stepK m s k) dst ts Q

/-- Two ways. -/
def brT (c : Bool) (t1 : List Tk) (s1 : St) (t2 : List Tk) (s2 : St) (Q : Ex → St → Prop) : Prop :=
  (c = true → go E m t1 s1 Q) ∧ (c = false → go E m t2 s2 Q)

def grd (fv : FV) (b : Bool) (t1 : List Tk) (s : St) (t2 : List Tk) (s2 : St) (Q : Ex → St → Prop) : Prop :=
  match fv with
  | .val (.bool c) => brT E m (c == b) t1 s t2 s2 Q
  | .val (.tuple _) => go E m t2 s2 Q
  | _ => False

def cnd (v : Option Value) (t1 t2 : List Tk) (s : St) (Q : Ex → St → Prop) : Prop :=
  match v with
  | some (.bool c) => brT E m c t1 s t2 s Q
  | _ => False

section
variable {E m} {s s1 s2 : St} {Q : Ex → St → Prop} {ts t1 t2 : List Tk}

theorem go_nil : go E m [] s Q = Q .normal s := by rw [go]
theorem go_blk (i : Nat) : go E m (.blk i :: ts) s Q = go E m ts s Q := by rw [go]
theorem go_skip : go E m (.c .skip :: ts) s Q = go E m ts s Q := by rw [go, wpC, thr]
theorem go_ret : go E m (.c .ret :: ts) s Q = Q .ret s := by rw [go, wpC, thr]
theorem go_exit (j : Nat) : go E m (.c (.exit j) :: ts) s Q = thr E m (.exit j) ts s Q := by rw [go, wpC]
theorem go_seq (a b : CC) : go E m (.c (.seq a b) :: ts) s Q = go E m (.c a :: .c b :: ts) s Q := by
  rw [go, wpC, go]
  congr 1
  funext e s'
  cases e with
  | normal => simp only [thr, go]
  | exit j => simp only [thr]
  | ret => simp only [thr]
theorem go_block (i : Nat) (c : CC) : go E m (.c (.block i c) :: ts) s Q = go E m (.c c :: .blk i :: ts) s Q := by
  rw [go, wpC, go]
  congr 1
  funext e s'
  cases e with
  | normal => simp only [thr, go]
  | exit j => simp only [thr]
  | ret => simp only [thr]
theorem go_reg (os : List CO) : go E m (.c (.reg false os) :: ts) s Q = go E m (.r os :: ts) s Q := by
  simp only [go, wpC, thr]
theorem go_r0 : go E m (.r [] :: ts) s Q = go E m ts s Q := by simp only [go, wpR]
theorem go_r (o : CO) (os : List CO) : go E m (.r (o :: os) :: ts) s Q = go E m (.o false o :: .r os :: ts) s Q := by simp only [go, wpR]
theorem go_d0 (ops : List CO) (acc : List (List Nat × Bool)) : go E m (.d ops [] acc :: ts) s Q = (chk ops acc.reverse = true ∧ go E m ts s Q) := by simp only [go, wpD3]
theorem go_d (ops os : List CO) (o : CO) (acc : List (List Nat × Bool)) : go E m (.d ops (o :: os) acc :: ts) s Q = go E m (.o true o :: .d ops os (boxOf s.ρ o :: acc) :: ts) s Q := by simp only [go, wpD3]
theorem go_e0 (ops : List CO) (acc : List (List Nat × Bool × Bool)) (n0 : Nat) : go E m (.e ops [] acc n0 :: ts) s Q = (chk2 E.pw ops acc.reverse = true ∧ go E m ts s Q) := by simp only [go, wpD4]
theorem go_e (ops os : List CO) (o : CO) (acc : List (List Nat × Bool × Bool)) (n0 : Nat) : go E m (.e ops (o :: os) acc n0 :: ts) s Q = go E m (.o true o :: .e ops os (box2 n0 s o :: acc) n0 :: ts) s Q := by simp only [go, wpD4]
theorem go_w0 (ops : List CO) (acc : List (List Nat × Bool × Bool)) (lo hi : Nat) : go E m (.w ops [] acc lo hi :: ts) s Q = (chk3 E.pw ops acc.reverse = true ∧ go E m ts s Q) := by simp only [go, wpD5]
theorem go_w (ops os : List CO) (o : CO) (acc : List (List Nat × Bool × Bool)) (lo hi : Nat) : go E m (.w ops (o :: os) acc lo hi :: ts) s Q = go E m (.o true o :: .w ops os (box3 lo hi s o :: acc) lo hi :: ts) s Q := by simp only [go, wpD5]
theorem go_cond (x : X) (a b : CC) : go E m (.c (.cond x a b) :: ts) s Q = cnd E m (exv s.ρ x) (.c a :: ts) (.c b :: ts) s Q := by
  simp only [go, wpC, cnd]
  generalize exv s.ρ x = v
  rcases v with _ | v
  · rfl
  · cases v <;> simp only [Br, brT, go]

theorem stp_wpK {draw : Bool} {k : CK} {dst : Option Nat} : (wpK E m draw s k fun v s' => go E m ts { s' with ρ := upd s'.ρ dst v } Q) = stp E m draw s k dst ts Q := by
  cases k with
  | call f args => simp only [wpK, stp, callT]
  | callV x args =>
    simp only [wpK, stp, callVT]
    generalize exv s.ρ x = v
    rcases v with _ | v
    · rfl
    · cases v with
      | func fn first caps =>
        cases fn with
        | func f =>
          simp only
          cases exvs s.ρ args with
          | none => simp [callT, opt]
          | some vs =>
            simp only [callT, opt]
            by_cases h0 : first.size = 0
            · simp [h0]
            · simp [h0]
        | _ => rfl
      | _ => rfl
  | _ =>
    simp only [wpK, stp, aft, opt]
    split <;> simp_all

theorem go_o (draw : Bool) (d : Option Nat) (k : CK) (i : Nat) (p : List Nat) : go E m (.o draw ⟨d, none, k, i, p⟩ :: ts) s Q = stp E m draw s k d ts Q := by
  rw [← stp_wpK]
  simp only [go, wpO]
theorem go_g (draw : Bool) (d : Option Nat) (t : Nat) (b : Bool) (k : CK) (i : Nat) (p : List Nat) : go E m (.o draw ⟨d, some (t, b), k, i, p⟩ :: ts) s Q =
    grd E m (s.ρ t) b (.o draw ⟨d, none, k, i, p⟩ :: ts) s ts { s with ρ := upd s.ρ d (.val (.tuple #[])) } Q := by
  simp only [go, wpO, grd]
  generalize s.ρ t = v
  cases v with
  | val v => cases v <;> simp only [Br, brT, go, wpO]
  | _ => rfl

theorem aft_some (v : FV) (d : Option Nat) : aft E m (some (v, s1)) d ts Q = go E m ts { s1 with ρ := upd s1.ρ d v } Q := rfl
theorem cnd_bool (c : Bool) : cnd E m (some (.bool c)) t1 t2 s Q = brT E m c t1 s t2 s Q := rfl
theorem grd_bool (c b : Bool) : grd E m (.val (.bool c)) b t1 s t2 s2 Q = brT E m (c == b) t1 s t2 s2 Q := rfl
theorem grd_tup (c : Array Value) (b : Bool) : grd E m (.val (.tuple c)) b t1 s t2 s2 Q = go E m t2 s2 Q := rfl
theorem brT_true : brT E m true t1 s1 t2 s2 Q = go E m t1 s1 Q := by simp [brT]
theorem brT_false : brT E m false t1 s1 t2 s2 Q = go E m t2 s2 Q := by simp [brT]
theorem brT_not (c : Bool) : brT E m (!c) t1 s1 t2 s2 Q = brT E m c t2 s2 t1 s1 Q := by cases c <;> simp [brT]
theorem brT.intro {c : Bool} (h1 : c = true → go E m t1 s1 Q) (h2 : c = false → go E m t2 s2 Q) : brT E m c t1 s1 t2 s2 Q := ⟨h1, h2⟩
theorem thr_exit (j i : Nat) : thr E m (.exit j) (.blk i :: ts) s Q = if j = i then go E m ts s Q else thr E m (.exit j) ts s Q := by simp only [thr]
theorem thr_c (j : Nat) (c : CC) : thr E m (.exit j) (.c c :: ts) s Q = thr E m (.exit j) ts s Q := by simp only [thr]
theorem thr_nil (j : Nat) : thr E m (.exit j) [] s Q = Q (.exit j) s := by simp only [thr]

theorem go_run {c : CC} (h : go E m [.c c] s Q) : Run E m c s Q := by
  rw [go] at h
  refine (wpC_ok h).mono fun e s' h => ?_
  cases e with
  | normal => rw [thr, go] at h; exact h
  | exit j => rw [thr] at h; exact h
  | ret => rw [thr] at h; exact h

theorem wpR_mono : ∀ {os : List CO} {s : St} {P P' : St → Prop}, wpR E m os s P → (∀ s', P s' → P' s') → wpR E m os s P'
  | [], _, _, _, h, hq => hq _ h
  | _ :: _, _, _, _, h, hq => wpO_mono h fun _ h' => wpR_mono h' hq

theorem wpD_mono : ∀ {os : List CO} {s : St} {acc : List (CO × Inf)} {P P' : St → Prop}, wpD E m os s acc P → (∀ s', P s' → P' s') → wpD E m os s acc P'
  | [], _, _, _, _, h, hq => ⟨h.1, hq _ h.2⟩
  | _ :: _, _, _, _, _, h, hq => wpO_mono h fun _ h' => wpD_mono h' hq

/-- A region with an open order, in which no call or writing stands in the open. -/
theorem go_draw {os : List CO} (h : go E m (.d os os [] :: ts) s Q) : go E m (.c (.reg true os) :: ts) s Q := by
  simp only [go, wpC, thr] at h ⊢
  exact wpD_easy h

theorem go_draw2 {os : List CO} (n0 : Nat) (h : go E m (.e os os [] n0 :: ts) s Q) : go E m (.c (.reg true os) :: ts) s Q := by
  simp only [go, wpC, thr] at h ⊢
  exact wpD4_easy h
theorem go_draw3 {os : List CO} (lo hi : Nat) (h : go E m (.w os os [] lo hi :: ts) s Q) : go E m (.c (.reg true os) :: ts) s Q := by
  simp only [go, wpC, thr] at h ⊢
  exact wpD5_easy h

/-- Cut: what code does is told by itself. -/
theorem go_cut {c : CC} {P : Ex → St → Prop} (h : Run E m c s P) (hq : ∀ e s', P e s' → thr E m e ts s' Q) (hl : ∃ b, c = .loop b) : go E m (.c c :: ts) s Q := by
  obtain ⟨b, rfl⟩ := hl
  rw [go, wpC]
  exact h.mono hq

theorem wpC_mono : ∀ {c : CC} {s : St} {P P' : Ex → St → Prop}, wpC E m c s P → (∀ e s', P e s' → P' e s') → wpC E m c s P'
  | .skip, _, _, _, h, hq => hq _ _ h
  | .exit _, _, _, _, h, hq => hq _ _ h
  | .ret, _, _, _, h, hq => hq _ _ h
  | .reg false _, _, _, _, h, hq => wpR_mono h (hq _)
  | .reg true _, _, _, _, h, hq => wpD_mono h (hq _)
  | .seq a b, s, P, P', h, hq => by
    simp only [wpC] at h ⊢
    refine wpC_mono (c := a) h fun e s' h' => ?_
    cases e with
    | normal => exact wpC_mono h' hq
    | exit j => exact hq _ _ h'
    | ret => exact hq _ _ h'
  | .cond c a b, s, P, P', h, hq => by
    simp only [wpC] at *
    revert h
    generalize exv s.ρ c = v
    rcases v with _ | v
    · exact fun h => h
    · cases v <;> first | exact fun h => h | exact fun h => ⟨fun e => wpC_mono (h.1 e) hq, fun e => wpC_mono (h.2 e) hq⟩
  | .block id c, s, P, P', h, hq => by
    simp only [wpC] at h ⊢
    refine wpC_mono (c := c) h fun e s' h' => ?_
    cases e with
    | normal => exact hq _ _ h'
    | exit j =>
      by_cases hj : j = id
      · simp only [if_pos hj] at *; exact hq _ _ h'
      · simp only [if_neg hj] at *; exact hq _ _ h'
    | ret => exact hq _ _ h'
  | .loop _, _, _, _, h, hq => h.mono hq

theorem go_mono {c : CC} {P P' : Ex → St → Prop} (h : go E m [.c c] s P) (hq : ∀ e s', P e s' → P' e s') : go E m [.c c] s P' := by
  rw [go] at *
  refine wpC_mono h fun e s' h => ?_
  cases e with
  | normal => simp only [thr, go] at *; exact hq _ _ h
  | exit j => simp only [thr] at *; exact hq _ _ h
  | ret => simp only [thr] at *; exact hq _ _ h

/-- A loop in its block: what holds at its head, what holds behind it. -/
theorem go_loop {i : Nat} {c : CC} (I : Nat → St → Prop) (P : St → Prop) (n : Nat) (h0 : I n s)
    (step : ∀ n s, I n s → go E m [.c c] s fun e s' => match e with
      | .normal => ∃ n' < n, I n' s'
      | .exit j => j = i ∧ P s'
      | .ret => Q .ret s')
    (hp : ∀ s, P s → go E m ts s Q) : go E m (.c (.loop c) :: .blk i :: ts) s Q := by
  refine go_cut (P := fun e s' => match e with
    | .normal => False
    | .exit j => j = i ∧ P s'
    | .ret => Q .ret s') ?_ (fun e s' h => ?_) ⟨_, rfl⟩
  · refine loop_ok I (fun n s hi => ?_) n s h0
    have := step n s hi
    rw [go] at this
    revert this
    generalize hk : wpC E m c s = w
    intro h
    subst hk
    have e : (fun e s' => thr E m e [] s' fun e s' => match e with
      | .normal => ∃ n' < n, I n' s'
      | .exit j => j = i ∧ P s'
      | .ret => Q .ret s') = fun e s' => match e with
      | .normal => ∃ n' < n, I n' s'
      | .exit j => j = i ∧ P s'
      | .ret => Q .ret s' := by
      funext e s'
      cases e <;> simp only [thr, go]
    rw [e] at h
    exact h
  · cases e with
    | normal => exact h.elim
    | exit j =>
      obtain ⟨rfl, hP⟩ := h
      rw [thr, if_pos rfl]
      exact hp _ hP
    | ret => rw [thr]; exact h

theorem callT_ok {draw : Bool} {f : Nat} {vs : List Value} {d : Option Nat} {P : Value → Hp → Prop} (h : ∀ m', (∀ id, s.H.length ≤ id → m.wr id = true) → (∀ id, s.H.length ≤ id → m'.wr id = true) → (m'.nr = m.nr) → (draw = false → m' = m) → Fun E m' f vs s.H P) (hw : ∀ id, s.H.length ≤ id → m.wr id = true)
    (hq : ∀ r H, P r H → go E m ts { s with H := H, ρ := upd s.ρ d (.val r) } Q) : callT E m draw f (some vs) s d ts Q := by
  unfold callT opt
  refine Fun.mono (h _ hw (fun id hid => ?_) ?_ ?_) hq
  · cases draw with
    | false => exact hw id hid
    | true => simp only [if_true, Md.drawn]; simp [hid]
  · cases draw <;> rfl
  · rintro rfl; rfl

end
end
end Go.Proofs.Ytceilcdhflcbpaa.Ev

/- Slices as lists; functions that leave memory as it is. -/
namespace Go.Proofs.Ytceilcdhflcbpaa.Ev
set_option linter.all false
open Go

section
variable {E : Env} {m : Md}

theorem Fun.det {f : Nat} {vs : List Value} {H : Hp} {P Q : Value → Hp → Prop} (h : Fun E m f vs H P) (k : Fun E m f vs H Q) : Fun E m f vs H fun r H' => P r H' ∧ Q r H' := by
  obtain ⟨k1, r1, H1, h1, h2⟩ := h
  obtain ⟨k2, r2, H2, h3, h4⟩ := k
  have e1 := evF_mono k2 h1
  have e2 := evF_mono k1 h3
  rw [Nat.add_comm] at e2
  rw [e1] at e2
  cases e2
  exact ⟨k1, r1, H1, h1, h2, h4⟩

/-- A function that answers this and leaves memory as it is, however it is called. -/
def Scal (E : Env) (f : Nat) (vs : List Value) (H : Hp) (r : Value) : Prop := ∀ m : Md, (∀ id, H.length ≤ id → m.wr id = true) → Fun E m f vs H fun r' H' => r' = r ∧ H' = H

theorem callT_scal {f : Nat} {vs : List Value} {H : Hp} {r : Value} (h : Scal E f vs H r) {draw : Bool} {s : St} {d : Option Nat} {ts : List Tk} {Q : Ex → St → Prop} (hH : s.H = H) (hw : ∀ id, H.length ≤ id → m.wr id = true) :
    callT E m draw f (some vs) s d ts Q = go E m ts { s with ρ := upd s.ρ d (.val r) } Q := by
  subst hH
  have hm := h (if draw then m.drawn E.pw s.H f vs else m) (fun id hid => by
    cases draw with
    | false => exact hw id hid
    | true => simp only [if_true, Md.drawn]; simp [hid])
  unfold callT opt
  simp only
  refine propext ⟨fun hf => ?_, fun hg => hm.mono fun r' H' ⟨e1, e2⟩ => by subst e1; subst e2; exact hg⟩
  obtain ⟨_, _, _, _, ⟨e1, e2⟩, h2⟩ := hm.det hf
  subst e1; subst e2
  exact h2

/-- New rows may be written. -/
def Wr (m : Md) (H : Hp) : Prop := ∀ id, H.length ≤ id → m.wr id = true

theorem callT_at {f : Nat} {vs : List Value} {H : Hp} {r : Value} (h : Scal E f vs H r) {draw : Bool} {s : St} {d : Option Nat} {ts : List Tk} {Q : Ex → St → Prop} (hH : s.H = H) (hw : Wr m H) :
    callT E m draw f (some vs) s d ts Q = go E m ts { s with ρ := upd s.ρ d (.val r) } Q := callT_scal h hH hw

theorem callT_to {f : Nat} {vs : List Value} {H : Hp} {P : Value → Hp → Prop} {draw : Bool} {s : St} {d : Option Nat} {ts : List Tk} {Q : Ex → St → Prop} (h : ∀ m' : Md, Wr m' H → Fun E m' f vs H P) (hH : s.H = H) (hw : Wr m H)
    (hq : ∀ r H', P r H' → go E m ts { s with H := H', ρ := upd s.ρ d (.val r) } Q) : callT E m draw f (some vs) s d ts Q := by
  subst hH
  exact callT_ok (fun m' _ h2 _ _ => h m' h2) hw hq

theorem Wr.pre {H H' : Hp} (h : Wr m H) (hp : H <+: H') : Wr m H' := fun id hid => h id (Nat.le_trans hp.length_le hid)

theorem Scal.fun {f : Nat} {vs : List Value} {H : Hp} {r : Value} (h : Scal E f vs H r) (hw : ∀ id, H.length ≤ id → m.wr id = true) {Q : Value → Hp → Prop} (hq : Q r H) : Fun E m f vs H Q :=
  (h m hw).mono fun _ _ ⟨e1, e2⟩ => by subst e1; subst e2; exact hq

/-- A slice that stands for a list; what an element's cells must be is told by R. -/
def Sl {α : Type} (R : α → List Value → Prop) (esz : Nat) (H : Hp) (v : Value) (l : List α) : Prop :=
  (v = .slice none 0 0 ∧ l = []) ∨ ∃ id off cap o, v = .slice (some ⟨id, off, some esz⟩) l.length cap ∧ H[id]? = some o ∧ off + cap = o.length ∧ l.length * esz ≤ cap ∧ l.length ≤ 9223372036854775807 ∧
    ∀ i a, l[i]? = some a → R a ((o.drop (off + i * esz)).take esz)

/-- Elements of plain cells. -/
def En {α : Type} (enc : α → List Value) (a : α) (cs : List Value) : Prop := cs = enc a

def eI (n : Int) : List Value := [.int .i64 n]

theorem getElem?_of_take {o : List Value} {a n j : Nat} {cs : List Value} (h : (o.drop a).take n = cs) (hj : j < n) : o[a + j]? = cs[j]? := by
  subst h
  rw [List.getElem?_take, if_pos hj, List.getElem?_drop]

section
variable {α : Type} {R : α → List Value → Prop} {esz : Nat} {H : Hp} {v : Value} {l : List α}

theorem Sl.len (h : Sl R esz H v l) {s : St} {x : X} (hx : exv s.ρ x = some v) : lenSK s x = some (.val (.int .i64 l.length), s) := by
  unfold lenSK
  rw [hx]
  rcases h with ⟨rfl, rfl⟩ | ⟨id, off, cap, o, rfl, _⟩ <;> rfl

theorem Sl.room (h : Sl R esz H v l) : l.length ≤ 9223372036854775807 := by
  rcases h with ⟨rfl, rfl⟩ | ⟨id, off, cap, o, rfl, ho, hc, hn, hrm, hr⟩
  · simp
  · exact hrm

theorem Sl.elem (h : Sl R esz H v l) {i : Nat} {a : α} (hi : l[i]? = some a) : ∃ id p o, H[id]? = some o ∧ R a ((o.drop p).take esz) ∧ p + esz ≤ o.length ∧
    ∀ (s : St) (x y : X), exv s.ρ x = some v → exv s.ρ y = some (.int .i64 i) → iadrK s esz x y = some (.val (.pointer (some ⟨id, p, some o.length⟩)), s) := by
  have hl := (List.getElem?_eq_some_iff.1 hi).1
  rcases h with ⟨rfl, rfl⟩ | ⟨id, off, cap, o, rfl, ho, hc, hn, hrm, hr⟩
  · simp at hi
  · have hm : (i + 1) * esz ≤ l.length * esz := Nat.mul_le_mul_right _ (by omega)
    rw [Nat.succ_mul] at hm
    refine ⟨id, off + i * esz, o, ho, hr i a hi, by omega, fun s x y hx hy => ?_⟩
    unfold iadrK
    rw [hx, hy]
    simp only [Int.toNat_natCast, hc]
    rw [if_pos ⟨trivial, by omega, by omega⟩]

theorem Sl.take (h : Sl R esz H v l) {i : Nat} (hi : i ≤ l.length) : ∃ v', Sl R esz H v' (l.take i) ∧
    ∀ (s : St) (x y : X), exv s.ρ x = some v → exv s.ρ y = some (.int .i64 i) → slcK s esz x none (some y) = some (.val v', s) := by
  rcases h with ⟨rfl, rfl⟩ | ⟨id, off, cap, o, rfl, ho, hc, hn, hrm, hr⟩
  · simp at hi
    subst hi
    refine ⟨.slice none 0 0, .inl ⟨rfl, by simp⟩, fun s x y hx hy => ?_⟩
    simp only [slcK, bnd, hx, hy]
    rfl
  · have hm : i * esz ≤ l.length * esz := Nat.mul_le_mul_right _ hi
    refine ⟨.slice (some ⟨id, off, some esz⟩) i cap, .inr ⟨id, off, cap, o, by rw [List.length_take, Nat.min_eq_left hi], ho, hc, by rw [List.length_take, Nat.min_eq_left hi]; omega, by rw [List.length_take]; omega, fun j a hj => ?_⟩, fun s x y hx hy => ?_⟩
    · rw [List.getElem?_take] at hj
      split at hj
      · exact hr j a hj
      · cases hj
    · simp only [slcK, bnd, hx, hy]
      rw [if_pos ⟨trivial, by omega, by omega, .inl (by omega), by simp⟩]
      simp [St.val]

/-- What stays as long as its rows stay. -/
theorem Sl.frame {R' : α → List Value → Prop} {H' : Hp} (h : Sl R esz H v l) (hr : ∀ a ∈ l, ∀ cs, R a cs → R' a cs) (hH : ∀ id off e len cap, v = .slice (some ⟨id, off, e⟩) len cap → H'[id]? = H[id]?) : Sl R' esz H' v l := by
  rcases h with ⟨rfl, rfl⟩ | ⟨id, off, cap, o, rfl, ho, hc, hn, hrm, hr2⟩
  · exact .inl ⟨rfl, rfl⟩
  · exact .inr ⟨id, off, cap, o, rfl, by rw [hH _ _ _ _ _ rfl]; exact ho, hc, hn, hrm, fun i a hi => hr a (List.mem_of_getElem? hi) _ (hr2 i a hi)⟩

end

/-- How a function ends. -/
def retT (v : Option Value) (tr : Bool) (H H' : Hp) (Q : Value → Hp → Prop) : Prop :=
  match v with
  | some v => (tr = true → flatScal v = true) ∧ Q v (if tr = true then H'.take H.length else H')
  | none => False

theorem post_ret {f : Nat} {res : List RV} {H : Hp} {Q : Value → Hp → Prop} {s : St} : FunPost E f res H Q .ret s = retT (resT s res) (E.tr f) H s.H Q := by
  unfold FunPost opt retT
  simp only
  cases resT s res with
  | none => rfl
  | some v => cases E.tr f <;> simp
theorem post_normal {f : Nat} {res : List RV} {H : Hp} {Q : Value → Hp → Prop} {s : St} : FunPost E f res H Q .normal s = retT (resT s res) (E.tr f) H s.H Q := by
  rw [← post_ret]; rfl
theorem retT_true {v : Value} {H H' : Hp} {Q : Value → Hp → Prop} : retT (some v) true H H' Q = (flatScal v = true ∧ Q v (H'.take H.length)) := by simp [retT]
theorem retT_false {v : Value} {H H' : Hp} {Q : Value → Hp → Prop} : retT (some v) false H H' Q = Q v H' := by simp [retT]
theorem flat_bool (b : Bool) : flatScal (.bool b) = true := rfl
theorem flat_int (k : IntKind) (n : Int) : flatScal (.int k n) = true := rfl
theorem flat_str (n : ByteArray) : flatScal (.string n) = true := rfl

/-- How a function's code is to end. -/
def Post (res : List RV) (tr : Bool) (H : Hp) (Q : Value → Hp → Prop) (e : Ex) (s : St) : Prop :=
  match e with
  | .exit _ => False
  | _ => retT (resT s res) tr H s.H Q
theorem Post_ret {res : List RV} {tr : Bool} {H : Hp} {Q : Value → Hp → Prop} {s : St} : Post res tr H Q .ret s = retT (resT s res) tr H s.H Q := rfl
theorem Post_normal {res : List RV} {tr : Bool} {H : Hp} {Q : Value → Hp → Prop} {s : St} : Post res tr H Q .normal s = retT (resT s res) tr H s.H Q := rfl
def PostS (res : List RV) (H : Hp) (r : Value) (e : Ex) (s : St) : Prop :=
  match e with
  | .exit _ => False
  | _ => resT s res = some r ∧ s.H.take H.length = H
theorem PostS_ret {res : List RV} {H : Hp} {r : Value} {s : St} : PostS res H r .ret s = (resT s res = some r ∧ s.H.take H.length = H) := rfl
theorem PostS_normal {res : List RV} {H : Hp} {r : Value} {s : St} : PostS res H r .normal s = (resT s res = some r ∧ s.H.take H.length = H) := rfl

theorem fun_ok {f : Nat} {cf : CF} {vs : List Value} {H : Hp} {Q : Value → Hp → Prop} {tr : Bool} (ht : E.tr f = tr) (hp : E.prim f = none) (hf : E.fns f = some cf) (hl : vs.length ≤ cf.nt)
    (h : go E { m with nr := m.nr || tr } [.c cf.body] { ρ := ini vs, gn := 0, H := H } (Post cf.res tr H Q)) : Fun E m f vs H Q := by
  subst ht
  refine Fun.intro hp hf hl ((go_run h).mono fun e s' h' => ?_)
  cases e with
  | normal => rw [post_normal]; exact h'
  | exit j => exact h'
  | ret => rw [post_ret]; exact h'

theorem fun_f {f : Nat} {cf : CF} {vs : List Value} {H : Hp} {Q : Value → Hp → Prop} (ht : E.tr f = false) (hp : E.prim f = none) (hf : E.fns f = some cf) (hl : vs.length ≤ cf.nt)
    (h : go E m [.c cf.body] { ρ := ini vs, gn := 0, H := H } (Post cf.res false H Q)) : Fun E m f vs H Q :=
  fun_ok ht hp hf hl (by rw [Bool.or_false]; exact h)

theorem scal_ok {f : Nat} {cf : CF} {vs : List Value} {H : Hp} {r : Value} (ht : E.tr f = true) (hp : E.prim f = none) (hf : E.fns f = some cf) (hl : vs.length ≤ cf.nt) (hr : flatScal r = true)
    (h : ∀ m : Md, Wr m H → go E m [.c cf.body] { ρ := ini vs, gn := 0, H := H } (PostS cf.res H r)) : Scal E f vs H r := by
  intro m hw
  refine Fun.intro hp hf hl ((go_run (h { m with nr := m.nr || E.tr f } hw)).mono fun e s' h' => ?_)
  cases e with
  | normal => rw [post_normal, h'.1, ht, retT_true]; exact ⟨hr, rfl, h'.2⟩
  | exit j => exact h'
  | ret => rw [post_ret, h'.1, ht, retT_true]; exact ⟨hr, rfl, h'.2⟩

/-- A loop that counts up. -/
theorem go_for {s : St} {Q : Ex → St → Prop} {ts : List Tk} {b : Nat} {c : CC} (N : Nat) (I : Nat → St → Prop) (P : St → Prop) (h0 : I 0 s)
    (step : ∀ i s, i ≤ N → I i s → go E m [.c c] s fun e s' => match e with
      | .normal => i < N ∧ I (i + 1) s'
      | .exit j => j = b ∧ P s'
      | .ret => Q .ret s')
    (hp : ∀ s, P s → go E m ts s Q) : go E m (.c (.loop c) :: .blk b :: ts) s Q := by
  refine go_loop (fun n s => ∃ i, n = N - i ∧ i ≤ N ∧ I i s) P N ⟨0, by simp, by simp, h0⟩ (fun n s h => ?_) hp
  obtain ⟨i, rfl, hi, hI⟩ := h
  refine go_mono (step i s hi hI) fun e s' h => ?_
  cases e with
  | normal => exact ⟨N - (i + 1), by omega, i + 1, rfl, by omega, h.2⟩
  | exit j => exact h
  | ret => exact h

theorem spl_nil (o : List Value) (i : Nat) : spl o i [] = o := rfl
theorem spl_z : ∀ (cs : List Value) (x : Value) (xs : List Value) (c : Value), spl (x :: xs) 0 (c :: cs) = c :: spl xs 0 cs := by
  have h : ∀ (cs : List Value) (x : Value) (xs : List Value) (i : Nat), spl (x :: xs) (i + 1) cs = x :: spl xs i cs := by
    intro cs
    induction cs with
    | nil => intros; rfl
    | cons c cs ih => intro x xs i; rw [spl, spl, List.set_cons_succ, ih]
  intro cs x xs c
  rw [spl, List.set_cons_zero, h]
theorem spl_s (cs : List Value) : ∀ (x : Value) (xs : List Value) (i : Nat), spl (x :: xs) (i + 1) cs = x :: spl xs i cs := by
  induction cs with
  | nil => intros; rfl
  | cons c cs ih => intro x xs i; rw [spl, spl, List.set_cons_succ, ih]
section
variable (cs : List Value) (x : Value) (xs : List Value)
theorem spl_1 : spl (x :: xs) 1 cs = x :: spl xs 0 cs := spl_s cs x xs 0
theorem spl_2 : spl (x :: xs) 2 cs = x :: spl xs 1 cs := spl_s cs x xs 1
theorem spl_3 : spl (x :: xs) 3 cs = x :: spl xs 2 cs := spl_s cs x xs 2
theorem spl_4 : spl (x :: xs) 4 cs = x :: spl xs 3 cs := spl_s cs x xs 3
theorem spl_5 : spl (x :: xs) 5 cs = x :: spl xs 4 cs := spl_s cs x xs 4
theorem spl_6 : spl (x :: xs) 6 cs = x :: spl xs 5 cs := spl_s cs x xs 5
theorem spl_7 : spl (x :: xs) 7 cs = x :: spl xs 6 cs := spl_s cs x xs 6
theorem spl_8 : spl (x :: xs) 8 cs = x :: spl xs 7 cs := spl_s cs x xs 7
end
theorem zeros_0 (z : List Value) : zeros 0 z = [] := rfl
theorem zeros_1 (z : List Value) : zeros 1 z = z := by simp [zeros]
theorem zeros_2 (z : List Value) : zeros 2 z = z ++ z := by simp [zeros, List.replicate_succ]
theorem zeros_3 (z : List Value) : zeros 3 z = z ++ (z ++ z) := by simp [zeros, List.replicate_succ]
theorem zeros_4 (z : List Value) : zeros 4 z = z ++ (z ++ (z ++ z)) := by simp [zeros, List.replicate_succ]
theorem vc_agg (cs : Array Value) : vc (.agg cs) = some cs.toList := rfl
theorem vc_int (k : IntKind) (n : Int) : vc (.int k n) = some [.int k n] := rfl
theorem vc_bool (b : Bool) : vc (.bool b) = some [.bool b] := rfl
theorem vc_str (b : ByteArray) : vc (.string b) = some [.string b] := rfl
theorem vc_ptr (p : Option Addr) : vc (.pointer p) = some [.pointer p] := rfl
theorem vc_sl (a : Option Addr) (l c : Nat) : vc (.slice a l c) = some [.slice a l c] := rfl
theorem vc_fn (f : Fn) (a c : Array Value) : vc (.func f a c) = some [.func f a c] := rfl
theorem Sl.vc {α : Type} {R : α → List Value → Prop} {esz : Nat} {H : Hp} {v : Value} {l : List α} (h : Sl R esz H v l) : vc v = some [v] := by
  rcases h with ⟨rfl, _⟩ | ⟨_, _, _, _, rfl, _⟩ <;> rfl
theorem scal_int (k : IntKind) (n : Int) : scal (.int k n) = true := rfl
theorem scal_bool (b : Bool) : scal (.bool b) = true := rfl
theorem scal_str (b : ByteArray) : scal (.string b) = true := rfl
theorem scal_nil : scal (.slice none 0 0) = true := rfl

theorem wrap64 (n : Int) (h0 : -9223372036854775808 ≤ n) (h1 : n < 9223372036854775808) : IntKind.i64.wrap n = n := by
  simp [IntKind.wrap, IntKind.bits, IntKind.signed]
  omega

end
end Go.Proofs.Ytceilcdhflcbpaa.Ev

/- Slices that are one's own: writing into them, growing them. -/
namespace Go.Proofs.Ytceilcdhflcbpaa.Ev
set_option linter.all false
open Go

/-- A slice with a row of its own, from N on, from the row's start. -/
def OwnS (N : Nat) (v : Value) : Prop := v = .slice none 0 0 ∨ ∃ id e len cap, v = .slice (some ⟨id, 0, some e⟩) len cap ∧ N ≤ id

theorem take_drop_get (o : List Value) (p n j : Nat) : ((o.drop p).take n)[j]? = if j < n then o[p + j]? else none := by
  rw [List.getElem?_take]
  split <;> simp [List.getElem?_drop]

theorem spl_same {o cs : List Value} {p : Nat} (h : p + cs.length ≤ o.length) : ((spl o p cs).drop p).take cs.length = cs := by
  refine List.ext_getElem? fun j => ?_
  rw [take_drop_get]
  by_cases hj : j < cs.length
  · rw [if_pos hj, spl_get, if_pos (by omega), if_pos (by omega), show p + j - p = j by omega]
  · rw [if_neg hj, List.getElem?_eq_none (by omega)]

theorem spl_other {o cs : List Value} {p q n : Nat} (h : q + n ≤ p ∨ p + cs.length ≤ q) : ((spl o p cs).drop q).take n = (o.drop q).take n := by
  refine List.ext_getElem? fun j => ?_
  rw [take_drop_get, take_drop_get]
  by_cases hj : j < n
  · rw [if_pos hj, if_pos hj, spl_get, if_neg (by omega)]
  · rw [if_neg hj, if_neg hj]

theorem pre_set {H0 H : Hp} {id : Nat} {r : List Value} (h : H0 <+: H) (hid : H0.length ≤ id) : H0 <+: H.set id r := by
  obtain ⟨t, rfl⟩ := h
  exact ⟨t.set (id - H0.length) r, by rw [List.set_append_right _ _ hid]⟩

theorem pre_push {H0 H : Hp} {r : List Value} (h : H0 <+: H) : H0 <+: H ++ [r] := by
  obtain ⟨t, rfl⟩ := h
  exact ⟨t ++ [r], by simp⟩

theorem pre_take {H0 H : Hp} (h : H0 <+: H) : H.take H0.length = H0 := by
  obtain ⟨t, rfl⟩ := h
  simp

theorem pre_get {H0 H : Hp} (h : H0 <+: H) {id : Nat} (hid : id < H0.length) : H[id]? = H0[id]? := by
  obtain ⟨t, rfl⟩ := h
  rw [List.getElem?_append_left hid]

section
variable {α : Type} {R : α → List Value → Prop} {esz : Nat} {H : Hp} {v : Value} {l : List α}

/-- What a slice says of older rows stays. -/
theorem Sl.pre {H' : Hp} (h : Sl R esz H v l) (hp : H <+: H') : Sl R esz H' v l := by
  rcases h with ⟨rfl, rfl⟩ | ⟨id, off, cap, o, rfl, ho, hc, hn, hrm, hr⟩
  · exact .inl ⟨rfl, rfl⟩
  · exact .inr ⟨id, off, cap, o, rfl, by rw [pre_get hp (List.getElem?_eq_some_iff.1 ho).1]; exact ho, hc, hn, hrm, hr⟩

theorem Sl.ids (h : Sl R esz H v l) : ∀ id ∈ idsOf v, id < H.length := by
  rcases h with ⟨rfl, rfl⟩ | ⟨id, off, cap, o, rfl, ho, _⟩
  · simp [idsOf]
  · simp only [idsOf, List.mem_singleton]
    rintro _ rfl
    exact (List.getElem?_eq_some_iff.1 ho).1

theorem Sl.other {r : List Value} {id : Nat} (h : Sl R esz H v l) (hid : id ∉ idsOf v) : Sl R esz (H.set id r) v l := by
  rcases h with ⟨rfl, rfl⟩ | ⟨id', off, cap, o, rfl, ho, hc, hn, hrm, hr⟩
  · exact .inl ⟨rfl, rfl⟩
  · simp only [idsOf, List.mem_singleton] at hid
    exact .inr ⟨id', off, cap, o, rfl, by rw [List.getElem?_set_ne (by omega)]; exact ho, hc, hn, hrm, hr⟩

/-- Writing an element. -/
theorem Sl.store (h : Sl R esz H v l) {i : Nat} (hi : i < l.length) : ∃ id p o, H[id]? = some o ∧ p + esz ≤ o.length ∧ idsOf v = [id] ∧
    (∀ (s : St) (x y : X), exv s.ρ x = some v → exv s.ρ y = some (.int .i64 i) → iadrK s esz x y = some (.val (.pointer (some ⟨id, p, some o.length⟩)), s)) ∧
    ∀ a cs, cs.length = esz → R a cs → Sl R esz (H.set id (spl o p cs)) v (l.set i a) := by
  rcases h with ⟨rfl, rfl⟩ | ⟨id, off, cap, o, rfl, ho, hc, hn, hrm, hr⟩
  · simp at hi
  · have hm : (i + 1) * esz ≤ l.length * esz := Nat.mul_le_mul_right _ (by omega)
    rw [Nat.succ_mul] at hm
    have hid := (List.getElem?_eq_some_iff.1 ho).1
    refine ⟨id, off + i * esz, o, ho, by omega, rfl, fun s x y hx hy => ?_, fun a cs hcs hRa => .inr ⟨id, off, cap, spl o (off + i * esz) cs, by rw [List.length_set], by rw [List.getElem?_set_self hid], by rw [spl_length]; exact hc, by rw [List.length_set]; exact hn, by rw [List.length_set]; exact hrm, fun j b hj => ?_⟩⟩
    · unfold iadrK
      rw [hx, hy]
      simp only [Int.toNat_natCast, hc]
      rw [if_pos ⟨trivial, by omega, by omega⟩]
    · rw [List.getElem?_set] at hj
      split at hj
      · rename_i hij
        subst hij
        cases hj
        have := spl_same (o := o) (cs := cs) (p := off + i * esz) (by omega)
        rw [hcs] at this
        rw [this]
        exact hRa
      · rename_i hij
        rw [spl_other]
        · exact hr j b hj
        · rw [hcs]
          by_cases hlt : j < i
          · have : (j + 1) * esz ≤ i * esz := Nat.mul_le_mul_right _ (by omega)
            rw [Nat.succ_mul] at this
            exact .inl (by omega)
          · have : (i + 1) * esz ≤ j * esz := Nat.mul_le_mul_right _ (by omega)
            rw [Nat.succ_mul] at this
            exact .inr (by omega)

end
end Go.Proofs.Ytceilcdhflcbpaa.Ev

/- What comes in by a law's parameters, as rows of the small machine. -/
namespace Go.Proofs.Ytceilcdhflcbpaa.Ev
set_option linter.all false
open Go Go.ChangeShapes Go.WideShapes Go.RowKit

/-- Is there a block of cells at all? -/
def Blk (w : World) : Prop := ∃ (b : Nat) (ds : Array Value) (e : TypeId) (lo hi : Nat), w.heap[b]? = some (.cells ds e (lo, hi))

/-- Rows that are only read. -/
def RdRel (J : Inj) (M : Hp) (w : World) : Prop := WRel M.length J M w

def Ext (J : Inj) (M : Hp) (J' : Inj) (M' : Hp) : Prop := M <+: M' ∧ ∀ id, id < M.length → J' id = J id

theorem Ext.refl (J : Inj) (M : Hp) : Ext J M J M := ⟨List.prefix_refl _, fun _ _ => rfl⟩
theorem Ext.trans {J J' J'' : Inj} {M M' M'' : Hp} (h : Ext J M J' M') (k : Ext J' M' J'' M'') : Ext J M J'' M'' :=
  ⟨h.1.trans k.1, fun id hid => (k.2 id (Nat.lt_of_lt_of_le hid h.1.length_le)).trans (h.2 id hid)⟩
theorem Ext.keep {J J' : Inj} {M M' : Hp} (h : Ext J M J' M') : Keep J M J' M' := fun id o ho =>
  ⟨o, by rw [pre_get h.1 (List.getElem?_eq_some_iff.1 ho).1]; exact ho, .inr ⟨rfl, h.2 id (List.getElem?_eq_some_iff.1 ho).1⟩⟩

/-- Values of a type, brought into the machine: what stands for them, and what is known of them. -/
structure Bld {α : Type} (P : Program) (t : TypeId) (sz : Nat) (R : Hp → α → List Value → Prop) (ok : α → Prop) : Prop where
  cells : P.cellsOf t = sz
  pos : 0 < sz
  mono : ∀ {M M' : Hp} {z : α} {vs : List Value}, M <+: M' → R M z vs → R M' z vs
  bld : ∀ {H : Type} {enc : TypeId × Value → H} {w : World} {base : Nat} {held : Bool} {fuel : Nat} {cs : List Value} {x : DataW H × List MemPlace},
    DataW.trod enc P w base (fun _ => true) held fuel t cs = some x → (∀ a l c, .slice (some a) l c ∈ cs → Blk w) → ∀ (J : Inj) (M : Hp), RdRel J M w →
    ∃ (J' : Inj) (M' : Hp) (vs : List Value) (z : α), Ext J M J' M' ∧ RdRel J' M' w ∧ LRel J' M' vs cs ∧ (∀ v ∈ vs, v.oneCell' = true) ∧ R M' z vs ∧ ok z

theorem RdRel.nil (w : World) : RdRel (fun _ => none) [] w :=
  ⟨fun id o h => by simp at h, fun _ _ _ _ _ _ h _ => by simp at h, fun _ _ => rfl⟩

section
variable {P : Program}

theorem Bld.int {k : IntKind} {t : TypeId} (ht : P.underlying t = some (.int k)) (hc : P.cellsOf t = 1) : Bld P t 1 (fun _ n vs => vs = [.int k n]) (fun n => (Lit.int k n).wf = true) :=
  ⟨hc, by omega, fun _ h => h, fun h _ J M hr => by
    obtain ⟨n, rfl, _, hw⟩ := DataW.trod_int ht h
    exact ⟨J, M, _, n, .refl _ _, hr, .cons (.int k n) .nil, by simp [Value.oneCell'], rfl, hw⟩⟩

theorem Bld.bool {t : TypeId} (ht : P.underlying t = some .bool) (hc : P.cellsOf t = 1) : Bld P t 1 (fun _ b vs => vs = [.bool b]) (fun _ => True) :=
  ⟨hc, by omega, fun _ h => h, fun h _ J M hr => by
    obtain ⟨n, rfl, _⟩ := DataW.trod_bool ht h
    exact ⟨J, M, _, n, .refl _ _, hr, .cons (.bool n) .nil, by simp [Value.oneCell'], rfl, trivial⟩⟩

theorem Bld.string {t : TypeId} (ht : P.underlying t = some .string) (hc : P.cellsOf t = 1) : Bld P t 1 (fun _ s vs => vs = [.string s]) (fun s => s.size ≤ maxLen) :=
  ⟨hc, by omega, fun _ h => h, fun h _ J M hr => by
    obtain ⟨n, rfl, _, hw⟩ := DataW.trod_string ht h
    exact ⟨J, M, _, n, .refl _ _, hr, .cons (.str n) .nil, by simp [Value.oneCell'], rfl, hw⟩⟩

/-- A new row that is only read. -/
theorem RdRel.push {J : Inj} {M : Hp} {w : World} (h : RdRel J M w) {l : Loc} {ds : Array Value} {e : TypeId} {lo hi : Nat} {o : List Value} (hb : w.heap[l.b]? = some (.cells ds e (lo, hi))) (hs : ds.size = l.sz) (hl : l.sh + o.length ≤ l.sz)
    (ho : LRel J M o ((ds.toList.drop l.sh).take o.length)) (h1 : ∀ v ∈ o, v.oneCell' = true) :
    Ext J M (fun id => if id = M.length then some l else J id) (M ++ [o]) ∧ RdRel (fun id => if id = M.length then some l else J id) (M ++ [o]) w := by
  have hx : Ext J M (fun id => if id = M.length then some l else J id) (M ++ [o]) := ⟨List.prefix_append _ _, fun id hid => by show (if id = M.length then some l else J id) = J id; rw [if_neg (by omega)]⟩
  refine ⟨hx, fun id o2 ho2 => ?_, fun id id' l2 l' hne hB hl1 hl2 => ?_, fun id hid => ?_⟩
  · have hid := (List.getElem?_eq_some_iff.1 ho2).1
    rw [List.length_append, List.length_singleton] at hid
    by_cases he : id = M.length
    · subst he
      rw [List.getElem?_append_right (Nat.le_refl _), Nat.sub_self] at ho2
      cases ho2
      refine ⟨l, ds, e, lo, hi, by simp, hb, hs, hl, fun i v hv => ⟨h1 v (List.mem_of_getElem? hv), ?_⟩, fun hB => by rw [List.length_append, List.length_singleton] at hB; omega⟩
      obtain ⟨y, hy, hr⟩ := ho.get hv
      have hi2 := (List.getElem?_eq_some_iff.1 hv).1
      refine ⟨y, ?_, hr.keep hx.keep⟩
      rw [take_drop_get, if_pos hi2, Array.getElem?_toList] at hy
      exact hy
    · rw [List.getElem?_append_left (by omega)] at ho2
      obtain ⟨l2, ds2, e2, lo2, hi2, a1, a2, a3, a4, a5, _⟩ := h.row id o2 ho2
      refine ⟨l2, ds2, e2, lo2, hi2, by show (if id = M.length then some l else J id) = some l2; rw [if_neg he]; exact a1, a2, a3, a4, fun i v hv => ?_, fun hB => by rw [List.length_append, List.length_singleton] at hB; omega⟩
      obtain ⟨b1, d, b2, b3⟩ := a5 i v hv
      exact ⟨b1, d, b2, b3.keep hx.keep⟩
  · rw [List.length_append, List.length_singleton] at hB
    have hl1 : (if id = M.length then some _ else J id) = some l2 := hl1
    rw [if_neg (by omega), h.dom id (by omega)] at hl1
    cases hl1
  · rw [List.length_append, List.length_singleton] at hid
    show (if id = M.length then some l else J id) = none
    rw [if_neg (by omega)]
    exact h.dom id (by omega)

end
end Go.Proofs.Ytceilcdhflcbpaa.Ev

/- Lists and records that come in by a law's parameters. -/
namespace Go.Proofs.Ytceilcdhflcbpaa.Ev
set_option linter.all false
open Go Go.ChangeShapes Go.WideShapes Go.RowKit

theorem add_add (a : Addr) (m j : Nat) : (a.add m).add j = a.add (m + j) := by
  unfold Addr.add
  by_cases hm : m = 0
  · subst hm; simp
  · by_cases hj : j = 0
    · subst hj; simp [hm]
    · simp [hm, hj, Nat.add_assoc]

theorem cell_some {w : World} {a : Addr} {k : Nat} {v : Value} (h : w.cell? (a.add k) = some v) (hs : k = 0 → a.spot = none) :
    ∃ (ds : Array Value) (e : TypeId) (lo hi : Nat), w.heap[a.block]? = some (.cells ds e (lo, hi)) ∧ ds[a.off + k]? = some v := by
  have hb : (a.add k).block = a.block := by unfold Addr.add; split <;> rfl
  have ho : (a.add k).off = a.off + k := by
    unfold Addr.add
    split
    · rename_i hk; subst hk; rfl
    · rfl
  unfold World.cell? at h
  rw [hb, ho] at h
  split at h
  · rename_i c e r hc
    split at h
    · cases h
    · exact ⟨c, e, r.1, r.2, hc, h⟩
  · cases h

theorem cell_spot {w : World} {a : Addr} {v : Value} (h : w.cell? (a.add 0) = some v) : a.spot = none := by
  have : a.add 0 = a := by simp [Addr.add]
  rw [this] at h
  unfold World.cell? at h
  split at h
  · split at h
    · cases h
    · rename_i hs
      cases hsp : a.spot with
      | none => rfl
      | some x => rw [hsp] at hs; exact absurd rfl hs
  · cases h

section
variable {P : Program}

theorem Bld.slice {α : Type} {R : Hp → α → List Value → Prop} {ok : α → Prop} {t e : TypeId} {sz : Nat} (ht : P.underlying t = some (.slice e)) (hc : P.cellsOf t = 1) (he : Bld P e sz R ok) :
    Bld P t 1 (fun M l vs => ∃ v, vs = [v] ∧ Sl (R M) sz M v l) (fun l => l.length ≤ maxLen ∧ ∀ x ∈ l, ok x) := by
  refine ⟨hc, by omega, fun {M M' z vs} hp ⟨v, h1, h2⟩ => ⟨v, h1, (h2.pre hp).frame (fun a _ cs h => he.mono hp h) fun _ _ _ _ _ _ => rfl⟩, ?_⟩
  intro H enc w base held fuel cs x h hb J M hr
  rcases DataW.trod_slice ht h with ⟨rfl, _⟩ | ⟨a, len, cap, elems, rest, n, _, rfl, _, hbase, hlc, hm, hlen, hel, hre, _⟩
  · exact ⟨J, M, _, [], .refl _ _, hr, .cons .nsl .nil, by simp [Value.oneCell'], ⟨_, rfl, .inl ⟨rfl, rfl⟩⟩, by simp⟩
  · have hpos := he.pos
    have hesz := he.cells
    have hblk : Blk w := hb a len cap (by simp)
    have hread : ∀ i, i < cap → ∃ c, w.cells? base (a.add (i * sz)) sz = some c ∧ (i < len → ∃ y, DataW.trod enc P w base (fun _ => true) held n e c = some y) := fun i hi => by
      by_cases hil : i < len
      · have h1 := hel i hil
        rw [List.getElem?_eq_getElem (by omega), hesz] at h1
        obtain ⟨c, h2, h3⟩ := Option.bind_eq_some_iff.1 h1
        exact ⟨c, h2, fun _ => ⟨_, h3⟩⟩
      · obtain ⟨h1, h2⟩ := hre rfl
        have h3 := h2 (i - len) (by omega)
        rw [List.getElem?_eq_getElem (by omega), hesz, show len + (i - len) = i by omega] at h3
        obtain ⟨c, h4, h5⟩ := Option.bind_eq_some_iff.1 h3
        exact ⟨c, h4, fun h => absurd h hil⟩
    have key : ∀ m, m ≤ len → ∃ (J' : Inj) (M' : Hp) (vs rc : List Value) (z : List α), Ext J M J' M' ∧ RdRel J' M' w ∧ LRel J' M' vs rc ∧ (∀ v ∈ vs, v.oneCell' = true) ∧ vs.length = m * sz ∧
        (∀ k, k < m * sz → w.cell? (a.add k) = rc[k]?) ∧ z.length = m ∧ ∀ i x, z[i]? = some x → R M' x ((vs.drop (i * sz)).take sz) ∧ ok x := fun m => by
      induction m with
      | zero => exact fun _ => ⟨J, M, [], [], [], .refl _ _, hr, .nil, by simp, by simp, fun k hk => by omega, rfl, fun i x hx => by simp at hx⟩
      | succ m ih =>
        intro hml
        obtain ⟨J1, M1, vs1, rc1, z1, e1, r1, l1, o1, n1, c1, zl1, zr1⟩ := ih (by omega)
        obtain ⟨c, hc1, hc2⟩ := hread m (by omega)
        obtain ⟨y, hy⟩ := hc2 (by omega)
        obtain ⟨_, hcl, hcell⟩ := World.cells?_some hc1
        obtain ⟨J2, M2, vs2, z2, e2, r2, l2, o2, p2, k2⟩ := he.bld hy (fun _ _ _ _ => hblk) J1 M1 r1
        have hv2 : vs2.length = sz := by rw [l2.1, hcl]
        refine ⟨J2, M2, vs1 ++ vs2, rc1 ++ c, z1 ++ [z2], e1.trans e2, r2, (l1.keep e2.keep).append l2, fun v hv => ?_, by rw [List.length_append, n1, hv2, Nat.succ_mul], fun k hk => ?_, by simp [zl1], fun i x hx => ?_⟩
        · rcases List.mem_append.1 hv with h | h
          · exact o1 v h
          · exact o2 v h
        · have hrc : rc1.length = m * sz := by rw [← l1.1, n1]
          by_cases hkm : k < m * sz
          · rw [List.getElem?_append_left (by omega)]
            exact c1 k hkm
          · rw [Nat.succ_mul] at hk
            rw [List.getElem?_append_right (by omega), hrc, ← hcell (k - m * sz) (by omega), add_add, show m * sz + (k - m * sz) = k by omega]
        · by_cases hi : i < m
          · rw [List.getElem?_append_left (by omega)] at hx
            obtain ⟨q1, q2⟩ := zr1 i x hx
            refine ⟨?_, q2⟩
            have hle : (i + 1) * sz ≤ m * sz := Nat.mul_le_mul_right _ hi
            rw [Nat.succ_mul] at hle
            rw [List.drop_append_of_le_length (by omega), List.take_append_of_le_length (by rw [List.length_drop]; omega)]
            exact he.mono e2.1 q1
          · have hil := (List.getElem?_eq_some_iff.1 hx).1
            rw [List.length_append, List.length_singleton] at hil
            have him : i = m := by omega
            subst him
            rw [List.getElem?_append_right (by omega), zl1, Nat.sub_self] at hx
            cases hx
            refine ⟨?_, k2⟩
            rw [List.drop_append_of_le_length (by omega), List.drop_of_length_le (by omega), List.nil_append, List.take_of_length_le (by omega)]
            exact p2
    obtain ⟨J1, M1, vs, rc, z, e1, r1, l1, o1, n1, c1, zl, zr⟩ := key len (Nat.le_refl _)
    have fin : ∀ (l : Loc) (ds : Array Value) (e' : TypeId) (lo hi : Nat), w.heap[l.b]? = some (.cells ds e' (lo, hi)) → ds.size = l.sz → l.sh + vs.length ≤ l.sz → LRel J1 M1 vs ((ds.toList.drop l.sh).take vs.length) →
        ((len = 0 ∧ cap = 0) ∨ (a = ⟨l.b, l.sh + 0, none⟩ ∧ l.sh + 0 + cap * sz ≤ l.sz)) →
        ∃ (J' : Inj) (M' : Hp) (vs : List Value) (z : List α), Ext J M J' M' ∧ RdRel J' M' w ∧ LRel J' M' vs [.slice (some a) len cap] ∧ (∀ v ∈ vs, v.oneCell' = true) ∧ (∃ v, vs = [v] ∧ Sl (R M') sz M' v z) ∧ (z.length ≤ maxLen ∧ ∀ x ∈ z, ok x) := fun l ds e' lo hi h1 h2 h3 h4 h5 => by
      obtain ⟨x1, x2⟩ := r1.push h1 h2 h3 h4 o1
      refine ⟨_, _, [.slice (some ⟨M1.length, 0, some sz⟩) len (len * sz)], z, e1.trans x1, x2, .cons (.sl _ _ _ _ _ vs a cap (by simp) (by omega) hlc (Nat.mul_le_mul_right _ hlc) fun _ => ⟨l, by simp, h5⟩) .nil, by simp [Value.oneCell'], ⟨_, rfl, ?_⟩, by omega, fun y hy => ?_⟩
      · refine .inr ⟨M1.length, 0, len * sz, vs, by rw [zl], by simp, by omega, by rw [zl]; omega, by unfold maxLen at hm; omega, fun i y hy => ?_⟩
        rw [Nat.zero_add]
        exact he.mono x1.1 (zr i y hy).1
      · obtain ⟨i, hi⟩ := List.getElem?_of_mem hy
        exact (zr i y hi).2
    by_cases hcap : cap = 0
    · have hl0 : len = 0 := by omega
      obtain ⟨b, ds, e', lo, hi, hbk⟩ := hblk
      have hv0 : vs = [] := List.eq_nil_of_length_eq_zero (by rw [n1, hl0]; omega)
      refine fin ⟨b, 0, ds.size⟩ ds e' lo hi hbk rfl (by rw [hv0]; simp) ?_ (.inl ⟨hl0, hcap⟩)
      rw [hv0]
      exact ⟨by simp, fun i x y hx => by simp at hx⟩
    · obtain ⟨c0, hc0, _⟩ := hread 0 (by omega)
      obtain ⟨_, hcl0, hcell0⟩ := World.cells?_some hc0
      have q0 := hcell0 0 hpos
      rw [add_add, Nat.zero_mul, Nat.zero_add, List.getElem?_eq_getElem (by omega)] at q0
      have hspot := cell_spot q0
      obtain ⟨ds, e', lo, hi, hbk, _⟩ := cell_some q0 fun _ => hspot
      have hcells : ∀ k v, w.cell? (a.add k) = some v → ds[a.off + k]? = some v := fun k v hv => by
        obtain ⟨ds2, e2, lo2, hi2, hb2, hd2⟩ := cell_some hv fun _ => hspot
        rw [hbk] at hb2
        cases hb2
        exact hd2
      obtain ⟨c9, hc9, _⟩ := hread (cap - 1) (by omega)
      obtain ⟨_, hcl9, hcell9⟩ := World.cells?_some hc9
      have q9 := hcell9 (sz - 1) (by omega)
      rw [add_add, List.getElem?_eq_getElem (by omega)] at q9
      have hsz9 := (Array.getElem?_eq_some_iff.1 (hcells _ _ q9)).1
      have hmul : (cap - 1) * sz + sz = cap * sz := by
        rw [← Nat.succ_mul]
        congr 1
        omega
      have hlm : len * sz ≤ cap * sz := Nat.mul_le_mul_right _ hlc
      refine fin ⟨a.block, a.off, ds.size⟩ ds e' lo hi hbk rfl (by simp only; omega) ⟨?_, fun i x y hx hy => ?_⟩ (.inr ⟨?_, by simp only; omega⟩)
      · rw [List.length_take, List.length_drop, Array.length_toList]
        show vs.length = min vs.length (ds.size - a.off)
        omega
      · have hi2 := (List.getElem?_eq_some_iff.1 hx).1
        obtain ⟨y2, hy2, hr2⟩ := l1.get hx
        have := c1 i (by omega)
        rw [hy2] at this
        have h3 := hcells _ _ this
        rw [take_drop_get, if_pos hi2, Array.getElem?_toList, h3] at hy
        cases hy
        exact hr2
      · cases a
        simp only at hspot
        subst hspot
        rfl

/-- Fields in line, from an offset on. -/
structure SeqB {α : Type} (P : Program) (sz : Nat) (R : Hp → α → List Value → Prop) (ok : α → Prop) (fs : List (TypeId × Nat)) (off : Nat) : Prop where
  pos : 0 < sz
  mono : ∀ {M M' : Hp} {z : α} {vs : List Value}, M <+: M' → R M z vs → R M' z vs
  bld : ∀ {H : Type} {enc : TypeId × Value → H} {w : World} {base : Nat} {held : Bool} {fuel : Nat} {cs : List Value}, cs.length = off + sz →
    (∀ f, f ∈ fs → ∃ y, DataW.trod enc P w base (fun _ => true) held fuel f.1 ((cs.drop f.2).take (P.cellsOf f.1)) = some y) → (∀ a l c, .slice (some a) l c ∈ cs → Blk w) → ∀ (J : Inj) (M : Hp), RdRel J M w →
    ∃ (J' : Inj) (M' : Hp) (vs : List Value) (z : α), Ext J M J' M' ∧ RdRel J' M' w ∧ LRel J' M' vs (cs.drop off) ∧ (∀ v ∈ vs, v.oneCell' = true) ∧ R M' z vs ∧ ok z

theorem SeqB.one {α : Type} {R : Hp → α → List Value → Prop} {ok : α → Prop} {t : TypeId} {sz off : Nat} (h : Bld P t sz R ok) : SeqB P sz R ok [(t, off)] off :=
  ⟨h.pos, h.mono, fun {H enc w base held fuel cs} hl hf hb J M hr => by
    obtain ⟨y, hy⟩ := hf (t, off) (by simp)
    have e : (cs.drop off).take (P.cellsOf t) = cs.drop off := List.take_of_length_le (by rw [List.length_drop, h.cells]; omega)
    simp only [e] at hy
    exact h.bld hy (fun a l c hm => hb a l c (List.mem_of_mem_drop hm)) J M hr⟩

theorem SeqB.cons {α β : Type} {R1 : Hp → α → List Value → Prop} {R2 : Hp → β → List Value → Prop} {ok1 : α → Prop} {ok2 : β → Prop} {t : TypeId} {s1 s2 off off' : Nat} {fs : List (TypeId × Nat)} (h : Bld P t s1 R1 ok1) (ho : off' = off + s1) (hs : SeqB P s2 R2 ok2 fs off') :
    SeqB P (s1 + s2) (fun M (x : α × β) vs => ∃ u v, vs = u ++ v ∧ R1 M x.1 u ∧ R2 M x.2 v) (fun x => ok1 x.1 ∧ ok2 x.2) ((t, off) :: fs) off := by
  refine ⟨by have := h.pos; omega, fun {M M' z vs} hp ⟨u, v, e, a, b⟩ => ⟨u, v, e, h.mono hp a, hs.mono hp b⟩, ?_⟩
  intro H enc w base held fuel cs hl hf hb J M hr
  obtain ⟨y, hy⟩ := hf (t, off) (by simp)
  have hl' : cs.length = off + (s1 + s2) := hl
  obtain ⟨J1, M1, vs1, z1, e1, r1, l1, o1, p1, k1⟩ := h.bld hy (fun a l c hm => hb a l c (List.mem_of_mem_drop (List.mem_of_mem_take hm))) J M hr
  obtain ⟨J2, M2, vs2, z2, e2, r2, l2, o2, p2, k2⟩ := hs.bld (by rw [ho]; omega) (fun f hff => hf f (List.mem_cons_of_mem _ hff)) hb J1 M1 r1
  refine ⟨J2, M2, vs1 ++ vs2, (z1, z2), e1.trans e2, r2, ?_, fun v hv => ?_, ⟨vs1, vs2, rfl, h.mono e2.1 p1, p2⟩, k1, k2⟩
  · have := (l1.keep e2.keep).append l2
    rw [h.cells, ho, ← List.drop_drop, List.take_append_drop] at this
    exact this
  · rcases List.mem_append.1 hv with hm | hm
    · exact o1 v hm
    · exact o2 v hm

theorem Bld.struct {α : Type} {R : Hp → α → List Value → Prop} {ok : α → Prop} {t : TypeId} {sz : Nat} {fs : Array Field} (ht : P.underlying t = some (.struct fs)) (hc : P.cellsOf t = sz) (hs : SeqB P sz R ok (fs.toList.map fun f => (f.type, f.offset)) 0) : Bld P t sz R ok := by
  refine ⟨hc, hs.pos, hs.mono, fun {H enc w base held fuel cs x} h hb J M hr => ?_⟩
  obtain ⟨xs, n, _, _, hl, hxl, hx⟩ := DataW.trod_struct ht h
  have := hs.bld (enc := enc) (w := w) (base := base) (held := held) (fuel := n) (cs := cs) (by rw [hl, hc]; omega) (fun y hy => by
    obtain ⟨fl, hfl, rfl⟩ := List.mem_map.1 hy
    obtain ⟨i, hi⟩ := List.getElem?_of_mem hfl
    have hi' : fs[i]? = some fl := by rw [← hi]; simp
    have := hx i fl hi'
    have hlt : i < xs.length := by
      have := (List.getElem?_eq_some_iff.1 hi).1
      simp at this
      omega
    rw [List.getElem?_eq_getElem hlt] at this
    exact ⟨_, this⟩) hb J M hr
  simpa using this

theorem Bld.conv {α β : Type} {R : Hp → α → List Value → Prop} {R' : Hp → β → List Value → Prop} {ok : α → Prop} {ok' : β → Prop} {t : TypeId} {sz : Nat} (h : Bld P t sz R ok) (f : α → β) (hR : ∀ M z vs, R M z vs → R' M (f z) vs) (hm : ∀ {M M' : Hp} {z : β} {vs : List Value}, M <+: M' → R' M z vs → R' M' z vs) (hk : ∀ z, ok z → ok' (f z)) : Bld P t sz R' ok' :=
  ⟨h.cells, h.pos, hm, fun ht hb J M hr => by
    obtain ⟨J', M', vs, z, a1, a2, a3, a4, a5, a6⟩ := h.bld ht hb J M hr
    exact ⟨J', M', vs, f z, a1, a2, a3, a4, hR _ _ _ a5, hk _ a6⟩⟩

end
end Go.Proofs.Ytceilcdhflcbpaa.Ev

/- A law's parameters, one by one, and the whole of it. -/
namespace Go.Proofs.Ytceilcdhflcbpaa.Ev
set_option linter.all false
open Go Go.ChangeShapes Go.WideShapes Go.RowKit

structure ArgB {α : Type} (P : Program) (t : TypeId) (V : Hp → α → Value → Prop) (ok : α → Prop) : Prop where
  mono : ∀ {M M' : Hp} {z : α} {v : Value}, M <+: M' → V M z v → V M' z v
  arg : ∀ {H : Type} {enc : TypeId × Value → H} {w : World} {v : Value} {D : DataW H} {ps : List MemPlace} {base : Nat}, DataW.Trod enc P w 0 (fun _ => true) true t v D ps → Value.okWide P w .any base t v → ∀ (J : Inj) (M : Hp), RdRel J M w →
    ∃ (J' : Inj) (M' : Hp) (u : Value) (z : α), Ext J M J' M' ∧ RdRel J' M' w ∧ VRel J' M' u v ∧ V M' z u ∧ ok z

section
variable {P : Program}

theorem blk_of_shape {w : World} {r : Nat} {x : TypeId × Nat} (h : w.shape? r = some x) : Blk w := by
  unfold World.shape? at h
  split at h
  · rename_i c e q hc
    exact ⟨r, c, e, q.1, q.2, hc⟩
  · cases h

theorem cell_blk {w : World} {r : Reach} {base : Nat} {t : TypeId} {a : Addr} {l c : Nat} (h : Cell.okWide P w r base t (.slice (some a) l c)) : Blk w := by
  unfold Cell.okWide at h
  have h2 : Cell.ok P w r base t (.slice (some a) l c) := by
    revert h
    cases P.underlying t with
    | none => exact fun h => h
    | some d => cases d <;> exact fun h => h
  unfold Cell.ok at h2
  revert h2
  cases P.underlying t with
  | none => exact fun h => h.elim
  | some d => cases d <;> first | exact fun h => h.elim | exact fun h => by obtain ⟨_, _, _, _, row, cells, hs, _⟩ := h; exact blk_of_shape hs

theorem ArgB.one {α : Type} {R : Hp → α → List Value → Prop} {ok : α → Prop} {t : TypeId} (h : Bld P t 1 R ok) (hk : ∀ {w : World} {r : Reach} {base : Nat} {v : Value}, Value.okWide P w r base t v → v.cells = #[v] ∧ Cell.okWide P w r base t v) :
    ArgB P t (fun M z v => R M z [v]) ok :=
  ⟨h.mono, fun {H enc w v D ps base} hT hv J M hr => by
    obtain ⟨fuel, hf⟩ := hT
    obtain ⟨hc, hcell⟩ := hk hv
    rw [hc] at hf
    obtain ⟨J', M', vs, z, a1, a2, a3, a4, a5, a6⟩ := h.bld hf (fun a l c hm => by
      have h9 : Value.slice (some a) l c = v := by simpa using hm
      rw [← h9] at hcell
      exact cell_blk hcell) J M hr
    obtain ⟨u, rfl⟩ : ∃ u, vs = [u] := by
      have := a3.1
      cases vs with
      | nil => simp at this
      | cons y l => cases l with
        | nil => exact ⟨y, rfl⟩
        | cons z l => simp at this
    exact ⟨J', M', u, z, a1, a2, a3.2 0 u v rfl rfl, a5, a6⟩⟩

theorem ArgB.slice {α : Type} {R : Hp → α → List Value → Prop} {ok : α → Prop} {t e : TypeId} {sz : Nat} (ht : P.underlying t = some (.slice e)) (hc : P.cellsOf t = 1) (he : Bld P e sz R ok) :
    ArgB P t (fun M l v => Sl (R M) sz M v l) (fun l => l.length ≤ maxLen ∧ ∀ x ∈ l, ok x) := by
  have h := ArgB.one (Bld.slice ht hc he) (fun {w r base v} hv => by
    obtain ⟨a, len, cap, rfl⟩ := okWide_slice ht hv
    exact ⟨rfl, by unfold Value.okWide at hv; rw [ht] at hv; exact hv⟩)
  exact ⟨fun hp hs => by
    obtain ⟨v, e, h2⟩ := h.mono hp ⟨_, rfl, hs⟩
    cases e
    exact h2, fun hT hv J M hr => by
    obtain ⟨J', M', u, z, a1, a2, a3, ⟨v, e, h2⟩, a5⟩ := h.arg hT hv J M hr
    cases e
    exact ⟨J', M', u, z, a1, a2, a3, h2, a5⟩⟩

theorem ArgB.int {k : IntKind} {t : TypeId} (ht : P.underlying t = some (.int k)) (hc : P.cellsOf t = 1) : ArgB P t (fun _ n v => v = .int k n) (fun n => (Lit.int k n).wf = true) := by
  have h := ArgB.one (Bld.int ht hc) (fun {w r base v} hv => by
    obtain ⟨n, rfl⟩ := okWide_int ht hv
    exact ⟨rfl, by unfold Value.okWide at hv; rw [ht] at hv; exact hv⟩)
  exact ⟨fun _ h => h, fun hT hv J M hr => by
    obtain ⟨J', M', u, z, a1, a2, a3, a4, a5⟩ := h.arg hT hv J M hr
    exact ⟨J', M', u, z, a1, a2, a3, by simpa using a4, a5⟩⟩

theorem ArgB.bool {t : TypeId} (ht : P.underlying t = some .bool) (hc : P.cellsOf t = 1) : ArgB P t (fun _ b v => v = .bool b) (fun _ => True) := by
  have h := ArgB.one (Bld.bool ht hc) (fun {w r base v} hv => by
    obtain ⟨n, rfl⟩ := okWide_bool ht hv
    exact ⟨rfl, by unfold Value.okWide at hv; rw [ht] at hv; exact hv⟩)
  exact ⟨fun _ h => h, fun hT hv J M hr => by
    obtain ⟨J', M', u, z, a1, a2, a3, a4, a5⟩ := h.arg hT hv J M hr
    exact ⟨J', M', u, z, a1, a2, a3, by simpa using a4, a5⟩⟩

theorem ArgB.string {t : TypeId} (ht : P.underlying t = some .string) (hc : P.cellsOf t = 1) : ArgB P t (fun _ s v => v = .string s) (fun s => s.size ≤ maxLen) := by
  have h := ArgB.one (Bld.string ht hc) (fun {w r base v} hv => by
    obtain ⟨n, rfl⟩ := okWide_string ht hv
    exact ⟨rfl, by unfold Value.okWide at hv; rw [ht] at hv; exact hv⟩)
  exact ⟨fun _ h => h, fun hT hv J M hr => by
    obtain ⟨J', M', u, z, a1, a2, a3, a4, a5⟩ := h.arg hT hv J M hr
    exact ⟨J', M', u, z, a1, a2, a3, by simpa using a4, a5⟩⟩

theorem ArgB.struct {α : Type} {R : Hp → α → List Value → Prop} {ok : α → Prop} {t : TypeId} {sz : Nat} {fs : Array Field} (ht : P.underlying t = some (.struct fs)) (h : Bld P t sz R ok) :
    ArgB P t (fun M z v => ∃ vs, v = .agg vs ∧ R M z vs.toList) ok :=
  ⟨fun hp ⟨vs, e, hR⟩ => ⟨vs, e, h.mono hp hR⟩, fun {H enc w v D ps base} hT hv J M hr => by
    obtain ⟨fuel, hf⟩ := hT
    have hv2 := hv
    unfold Value.okWide at hv2
    rw [ht] at hv2
    obtain ⟨cs, rfl, hsz, ts, _, _, hcs⟩ := hv2
    obtain ⟨J', M', vs, z, a1, a2, a3, a4, a5, a6⟩ := h.bld hf (fun a l c hm => by
      obtain ⟨i, hi⟩ := List.getElem?_of_mem hm
      obtain ⟨u, _, hok⟩ := hcs i _ (by simpa [Value.cells] using hi)
      exact cell_blk hok) J M hr
    refine ⟨J', M', .agg vs.toArray, z, a1, a2, ?_, ⟨vs.toArray, rfl, a5⟩, a6⟩
    have hl := a3.1
    refine .agg _ _ (by simpa [Value.cells] using hl) (fun i x hx => a4 x (List.mem_of_getElem? (by simpa using hx))) fun i x y hx hy => a3.2 i x y (by simpa using hx) (by simpa [Value.cells] using hy)⟩

end
end Go.Proofs.Ytceilcdhflcbpaa.Ev

/- Growing a slice of one's own. -/
namespace Go.Proofs.Ytceilcdhflcbpaa.Ev
set_option linter.all false
open Go

section
variable {m : Md} {α : Type} {R : α → List Value → Prop} {esz : Nat} {H : Hp} {v : Value} {l : List α}

theorem Sl.app {N n bytes : Nat} {l2 : List α} {cs : List Value} (h : Sl R esz H v l) (ho : OwnS N v) (hN : N ≤ H.length) (hw : ∀ id, N ≤ id → m.wr id = true) (hnr : m.nr = true → cs.all scal = true) (hpos : 0 < l2.length) (hcs : cs.length = l2.length * esz)
    (hr : ∀ (i : Nat) a, l2[i]? = some a → R a ((cs.drop (i * esz)).take esz)) (hb : (l.length + l2.length) * bytes ≤ Ev.room) (hb2 : l.length + l2.length ≤ Ev.room) :
    ∃ v' H', (∀ (s : St) (x y : X), s.H = H → exv s.ρ x = some v → srcOf H esz (ex s.ρ y) = some (l2.length, cs) → appK m s esz bytes x y = some (.val v', { s with H := H' })) ∧ Sl R esz H' v' (l ++ l2) ∧ OwnS N v' ∧
      (∀ j, j < H.length → j ∉ idsOf v → H'[j]? = H[j]?) ∧ H.length ≤ H'.length ∧ (∀ j ∈ idsOf v', j ∈ idsOf v ∨ H.length ≤ j) ∧ ∀ H0 : Hp, H0.length ≤ N → H0 <+: H → H0 <+: H' := by
  have hb3 : l.length + l2.length ≤ 9223372036854775807 := by unfold Ev.room at hb2; omega
  rcases ho with rfl | ⟨id, e, ln, cap, rfl, hid⟩
  · have hl : l = [] := by
      rcases h with ⟨_, h⟩ | ⟨_, _, _, _, h, _⟩
      · exact h
      · cases h
    subst hl
    simp only [List.length_nil, Nat.zero_add] at hb hb2 hb3
    refine ⟨.slice (some ⟨H.length, 0, some esz⟩) l2.length (l2.length * esz), H ++ [cs], fun s x y hH hx hy => ?_, .inr ⟨H.length, 0, l2.length * esz, cs, by simp, by simp, by omega, by simp, by simpa using hb3, fun i a hi => ?_⟩,
      .inr ⟨_, _, _, _, rfl, hN⟩, fun j hj _ => by rw [List.getElem?_append_left hj], by simp, fun j hj => ?_, fun H0 _ hp => pre_push hp⟩
    · unfold appK
      rw [hx, hH, hy]
      simp only
      rw [if_neg (by omega), if_pos ⟨hb, hb2⟩]
    · rw [Nat.zero_add]
      exact hr i a (by simpa using hi)
    · simp [idsOf] at hj
      exact .inr (by omega)
  · rcases h with ⟨h, _⟩ | ⟨id', off, cap', o, h, hg, hoc, hlc, hroom, hrr⟩
    · cases h
    cases h
    have hidl := (List.getElem?_eq_some_iff.1 hg).1
    have hwid := hw id hid
    have hold : ∀ (q : List Value), (∀ k, k < l.length * esz → q[k]? = o[k]?) → ∀ (i : Nat) a, l[i]? = some a → R a ((q.drop (0 + i * esz)).take esz) := fun q hq i a hi => by
      have hil := (List.getElem?_eq_some_iff.1 hi).1
      have hm : (i + 1) * esz ≤ l.length * esz := Nat.mul_le_mul_right _ hil
      rw [Nat.succ_mul] at hm
      have : (q.drop (0 + i * esz)).take esz = (o.drop (0 + i * esz)).take esz := by
        refine List.ext_getElem? fun k => ?_
        rw [take_drop_get, take_drop_get]
        by_cases hk : k < esz
        · rw [if_pos hk, if_pos hk, hq _ (by omega)]
        · rw [if_neg hk, if_neg hk]
      rw [this]
      exact hrr i a hi
    have hnew : ∀ (q : List Value), (∀ k, k < cs.length → q[l.length * esz + k]? = cs[k]?) → ∀ (i : Nat) a, l2[i]? = some a → R a ((q.drop (0 + (l.length + i) * esz)).take esz) := fun q hq i a hi => by
      have hil := (List.getElem?_eq_some_iff.1 hi).1
      have hm : (i + 1) * esz ≤ l2.length * esz := Nat.mul_le_mul_right _ hil
      rw [Nat.succ_mul] at hm
      have : (q.drop (0 + (l.length + i) * esz)).take esz = (cs.drop (i * esz)).take esz := by
        refine List.ext_getElem? fun k => ?_
        rw [take_drop_get, take_drop_get]
        by_cases hk : k < esz
        · rw [if_pos hk, if_pos hk, Nat.zero_add, Nat.add_mul, Nat.add_assoc, hq _ (by omega)]
        · rw [if_neg hk, if_neg hk]
      rw [this]
      exact hr i a hi
    have both : ∀ (q : List Value), (∀ k, k < l.length * esz → q[k]? = o[k]?) → (∀ k, k < cs.length → q[l.length * esz + k]? = cs[k]?) → ∀ (i : Nat) a, (l ++ l2)[i]? = some a → R a ((q.drop (0 + i * esz)).take esz) := fun q h1 h2 i a hi => by
      by_cases hil : i < l.length
      · rw [List.getElem?_append_left hil] at hi
        exact hold q h1 i a hi
      · rw [List.getElem?_append_right (by omega)] at hi
        have := hnew q h2 _ a hi
        rw [show l.length + (i - l.length) = i by omega] at this
        exact this
    by_cases hfit : (l.length + l2.length) * esz ≤ cap
    · have hfit' : l.length * esz + cs.length ≤ cap := by rw [hcs, ← Nat.add_mul]; exact hfit
      refine ⟨.slice (some ⟨id, 0, some esz⟩) (l.length + l2.length) cap, H.set id (spl o (0 + l.length * esz) cs), fun s x y hH hx hy => ?_, .inr ⟨id, 0, cap, _, by rw [List.length_append], by rw [List.getElem?_set_self hidl], by rw [spl_length]; exact hoc, by rw [List.length_append]; exact hfit, by rw [List.length_append]; exact hb3,
        both _ (fun k hk => ?_) (fun k hk => ?_)⟩, .inr ⟨_, _, _, _, rfl, hid⟩, fun j hj hne => ?_, by simp, fun j hj => .inl hj, fun H0 h0 hp => pre_set hp (by omega)⟩
      · unfold appK
        rw [hx, hH, hy]
        simp only
        rw [if_neg (by omega), hg]
        simp only
        rw [if_pos ⟨trivial, hoc, hwid, hnr⟩, if_pos hfit]
      · rw [spl_get, if_neg (by omega)]
      · rw [spl_get, if_pos (by omega), if_pos (by omega)]
        congr 1
        omega
      · rw [List.getElem?_set_ne]
        simp [idsOf] at hne
        omega
    · have htl : (o.take (l.length * esz)).length = l.length * esz := by rw [List.length_take]; omega
      refine ⟨.slice (some ⟨id, 0, some esz⟩) (l.length + l2.length) ((l.length + l2.length) * esz), H.set id (o.take (l.length * esz) ++ cs), fun s x y hH hx hy => ?_, .inr ⟨id, 0, _, _, by rw [List.length_append], by rw [List.getElem?_set_self hidl], by rw [List.length_append, htl, hcs, ← Nat.add_mul, Nat.zero_add], by rw [List.length_append]; exact Nat.le_refl _, by rw [List.length_append]; exact hb3,
        both _ (fun k hk => ?_) (fun k hk => ?_)⟩, .inr ⟨_, _, _, _, rfl, hid⟩, fun j hj hne => ?_, by simp, fun j hj => .inl hj, fun H0 h0 hp => pre_set hp (by omega)⟩
      · unfold appK
        rw [hx, hH, hy]
        simp only
        rw [if_neg (by omega), hg]
        simp only
        rw [if_pos ⟨trivial, hoc, hwid, hnr⟩, if_neg hfit, if_pos ⟨trivial, by omega, hb, hb2⟩]
      · rw [List.getElem?_append_left (by omega), List.getElem?_take, if_pos hk]
      · rw [List.getElem?_append_right (by omega), htl, show l.length * esz + k - l.length * esz = k by omega]
      · rw [List.getElem?_set_ne]
        simp [idsOf] at hne
        omega

theorem Sl.src (h : Sl R esz H v l) : ∃ cs, srcOf H esz (.val v) = some (l.length, cs) ∧ cs.length = l.length * esz ∧ ∀ (i : Nat) a, l[i]? = some a → R a ((cs.drop (i * esz)).take esz) := by
  rcases h with ⟨rfl, rfl⟩ | ⟨id, off, cap, o, rfl, hg, hoc, hlc, hroom, hrr⟩
  · exact ⟨[], rfl, by simp, fun i a hi => by simp at hi⟩
  · refine ⟨(o.drop off).take (l.length * esz), ?_, by rw [List.length_take, List.length_drop]; omega, fun i a hi => ?_⟩
    · simp only [srcOf, rowOf, hg]
      rw [if_pos hoc]
      simp only
      rw [if_pos ⟨trivial, by omega⟩]
    · have hil := (List.getElem?_eq_some_iff.1 hi).1
      have hm : (i + 1) * esz ≤ l.length * esz := Nat.mul_le_mul_right _ hil
      rw [Nat.succ_mul] at hm
      have : (((o.drop off).take (l.length * esz)).drop (i * esz)).take esz = (o.drop (off + i * esz)).take esz := by
        refine List.ext_getElem? fun k => ?_
        rw [take_drop_get ((o.drop off).take (l.length * esz)) (i * esz) esz k, take_drop_get o (off + i * esz) esz k]
        by_cases hk : k < esz
        · rw [if_pos hk, if_pos hk, take_drop_get, if_pos (by omega), Nat.add_assoc]
        · rw [if_neg hk, if_neg hk]
      rw [this]
      exact hrr i a hi

theorem Sl.copy {bytes : Nat} (h : Sl R esz H v l) (hb : l.length * bytes ≤ Ev.room) (hb2 : l.length ≤ Ev.room) :
    ∃ v' H', (∀ (s : St) (x y : X), s.H = H → exv s.ρ x = some (.slice none 0 0) → ex s.ρ y = .val v → appK m s esz bytes x y = some (.val v', { s with H := H' })) ∧ H <+: H' ∧ Sl R esz H' v' l ∧ OwnS H.length v' := by
  obtain ⟨cs, h1, h2, h3⟩ := h.src
  by_cases h0 : l.length = 0
  · have hl : l = [] := List.eq_nil_of_length_eq_zero h0
    subst hl
    refine ⟨.slice none 0 0, H, fun s x y hH hx hy => ?_, List.prefix_refl _, .inl ⟨rfl, rfl⟩, .inl rfl⟩
    subst hH
    unfold appK
    rw [hx, hy, h1]
    rfl
  · refine ⟨.slice (some ⟨H.length, 0, some esz⟩) l.length (l.length * esz), H ++ [cs], fun s x y hH hx hy => ?_, List.prefix_append _ _, .inr ⟨H.length, 0, l.length * esz, cs, rfl, by simp, by omega, Nat.le_refl _, by unfold Ev.room at hb2; omega, fun i a hi => ?_⟩, .inr ⟨_, _, _, _, rfl, Nat.le_refl _⟩⟩
    · unfold appK
      rw [hx, hH, hy, h1]
      simp only
      rw [if_neg h0, if_pos ⟨hb, hb2⟩]
    · rw [Nat.zero_add]
      exact h3 i a hi

end
end Go.Proofs.Ytceilcdhflcbpaa.Ev

/- slices.Sort of whole numbers, by its contract off the kit's shelf. -/
namespace Go.Proofs.Ytceilcdhflcbpaa.Ev
set_option linter.all false
open Go

def isI : Value → Bool
  | .int .i64 _ => true
  | _ => false
def toI : Value → Int
  | .int _ n => n
  | _ => 0
theorem isI_eq {v : Value} (h : isI v = true) : v = .int .i64 (toI v) := by
  unfold isI at h
  split at h
  · rfl
  · cases h

def srt (l : List Int) : List Int := l.mergeSort fun x y => decide (x ≤ y)

def sortP (m : Md) (vs : List Value) (H : Hp) : Option (Value × Hp) :=
  match vs with
  | [.slice none 0 0] => some (.tuple #[], H)
  | [.slice (some ⟨id, off, some 1⟩) len cap] =>
    match H[id]? with
    | some o => if off + cap = o.length ∧ len ≤ cap ∧ m.wr id = true ∧ len < 4611686018427387904 ∧ ((o.drop off).take len).all isI = true then
        some (.tuple #[], H.set id (spl o off ((srt (((o.drop off).take len).map toI)).map (Value.int .i64)))) else none
    | none => none
  | _ => none

/-- What the shelf says of it. -/
structure SortOk (P : Program) (F : Nat) : Prop where
  fn : ∃ fn, P.funcs[F]? = some fn ∧ fn.body.isSome = true ∧ (fn.name == "runtime.NumGoroutine") = false
  run : ∀ (blk off cap : Nat) (zs : List Int) (w : World), Sort.Holds (Value.int .i64) w blk off zs.toArray → blk < w.heap.size → zs.length < 4611686018427387904 →
    Calls P F #[.slice (some ⟨blk, off, none⟩) zs.length cap] w fun e w' => e = .returned (.tuple #[]) ∧ ∃ n os, w' = Sort.grow (Sort.putRow (Value.int .i64) (Sort.ahead w n) blk off (zs.mergeSort fun x y => decide (x ≤ y)).toArray) os
  non : ∀ (p : Option Addr) (cap : Nat) (w : World), Calls P F #[.slice p 0 cap] w fun e w' => e = .returned (.tuple #[]) ∧ w' = w

theorem sortP_kp {m : Md} {vs : List Value} {H H' : Hp} {r : Value} (h : sortP m vs H = some (r, H')) : Kp m H H' := by
  unfold sortP at h
  split at h
  · cases h; exact Kp.refl _ _
  · split at h
    · rename_i id off len cap _ o ho
      split at h
      · rename_i hc
        cases h
        refine ⟨by simp, fun id' h1 h2 => ?_, fun _ id' o' hl ho' => ?_⟩
        · have : id ≠ id' := fun e => by subst e; rw [hc.2.2.1] at h1; cases h1
          rw [List.getElem?_set_ne this]
        · by_cases e : id = id'
          · subst e
            rw [List.getElem?_set_self hl] at ho'
            cases ho'
            refine ⟨o, ho, fun v hv => ?_⟩
            obtain ⟨j, hj⟩ := List.getElem?_of_mem hv
            rw [spl_get] at hj
            split at hj
            · split at hj
              · have := List.mem_of_getElem? hj
                obtain ⟨n, _, rfl⟩ := List.mem_map.1 this
                exact .inl rfl
              · cases hj
            · exact .inr (List.mem_of_getElem? hj)
          · rw [List.getElem?_set_ne e] at ho'
            exact ⟨o', ho', fun v hv => .inr hv⟩
      · cases h
    · cases h
  · cases h

theorem putRow_heap {w : World} {os : Array Obj} {n blk off : Nat} {a : Array Int} {ds : Array Value} {e : TypeId} {fr : Nat × Nat} (hb : w.heap[blk]? = some (.cells ds e fr)) :
    (Sort.grow (Sort.putRow (Value.int .i64) (Sort.ahead w n) blk off a) os).heap[blk]? = some (.cells (Sort.putCells (Value.int .i64) off a ds) e fr) := by
  have hl : blk < w.heap.size := (Array.getElem?_eq_some_iff.1 hb).1
  rw [Sort.heap_grow_old _ _ (by simpa [Sort.putRow, Sort.mapBlock, Sort.ahead] using hl)]
  simp only [Sort.putRow, Sort.mapBlock, Sort.ahead, Array.getElem?_modify, if_true, hb, Option.map_some, Sort.onCells]
theorem putRow_old {w : World} {os : Array Obj} {n blk off b : Nat} {a : Array Int} (hl : b < w.heap.size) (hb : blk ≠ b) :
    (Sort.grow (Sort.putRow (Value.int .i64) (Sort.ahead w n) blk off a) os).heap[b]? = w.heap[b]? := by
  rw [Sort.heap_grow_old _ _ (by simpa [Sort.putRow, Sort.mapBlock, Sort.ahead] using hl)]
  simp only [Sort.putRow, Sort.mapBlock, Sort.ahead, Array.getElem?_modify, if_neg hb]

theorem sortP_sound {P : Program} {B F : Nat} (hS : SortOk P F) {m : Md} {vs : List Value} {H H' : Hp} {r : Value} (h : sortP m vs H = some (r, H')) (hm : ∀ id, m.wr id = true → B ≤ id) {J : Inj} {w : World} {cs : Array Value} (hw : WRel B J H w) (hl : LRel J H vs cs.toList) :
    Calls P F cs w fun e w' => ∃ v J', e = .returned v ∧ Tr B w.heap.size J H w J' H' w' ∧ WRel B J' H' w' ∧ VRel J' H' r v := by
  obtain ⟨v, hv⟩ : ∃ v, vs = [v] := by
    unfold sortP at h
    split at h
    · exact ⟨_, rfl⟩
    · exact ⟨_, rfl⟩
    · cases h
  subst hv
  obtain ⟨c, hc, hvc⟩ := hl.get (i := 0) (x := v) rfl
  have hcs : cs = #[c] := by
    have h1 := hl.1
    apply Array.toList_inj.1
    cases hcl : cs.toList with
    | nil => rw [hcl] at h1; simp at h1
    | cons a t =>
      rw [hcl] at h1 hc
      simp at h1 hc
      subst hc
      simp [h1]
  subst hcs
  have tup : VRel J H' (.tuple #[]) (.tuple #[]) := .tup _ _ rfl (fun i x y hx => by simp at hx)
  unfold sortP at h
  split at h
  · rename_i heq
    cases h
    cases heq
    cases hvc
    exact (hS.non none 0 w).mono fun e w' ⟨h1, h2⟩ => by
      subst h2
      exact ⟨_, J, h1, Tr.refl _ _ _ _ _, hw, tup⟩
  · rename_i id off len cap heq
    cases heq
    split at h
    · rename_i o ho
      split at h
      · rename_i hcnd
        obtain ⟨hc1, hc2, hc3, hc4, hc5⟩ := hcnd
        cases h
        cases hvc with
        | sl _ _ _ _ _ o' a ccap ho' hg hll hcc hv =>
          rw [ho] at ho'
          cases ho'
          obtain ⟨l, hJ, hv⟩ := hv hc1
          obtain ⟨l', ds, e, lo, hi, hJ', hb, hsz, hlen, hcell, hfr⟩ := hw.row id o ho
          rw [hJ] at hJ'
          cases hJ'
          generalize hzs : ((o.drop off).take len).map toI = zs at *
          have hzl : zs.length = len := by subst hzs; simp; omega
          have hB := hm id hc3
          have hidl := (List.getElem?_eq_some_iff.1 ho).1
          have hget : ∀ j, j < len → o[off + j]? = some (.int .i64 zs[j]!) := fun j hj => by
            have h1 : off + j < o.length := by omega
            have h2 : ((o.drop off).take len)[j]? = some o[off + j] := by
              rw [List.getElem?_take, if_pos hj, List.getElem?_drop, List.getElem?_eq_getElem h1]
            have h3 : zs[j]! = toI o[off + j] := by
              subst hzs
              have h4 : (((o.drop off).take len).map toI)[j]? = some (toI o[off + j]) := by rw [List.getElem?_map, h2]; rfl
              rw [getElem!_def, h4]
            rw [List.all_eq_true] at hc5
            rw [List.getElem?_eq_getElem h1, h3, ← isI_eq (hc5 _ (List.mem_of_getElem? h2))]
          by_cases h0 : len = 0
          · subst h0
            have hz0 : zs = [] := List.eq_nil_of_length_eq_zero hzl
            subst hz0
            have : H.set id (spl o off ((srt []).map (Value.int .i64))) = H := by
              have e1 : srt [] = [] := by simp [srt]
              rw [e1]
              show H.set id o = H
              refine List.ext_getElem? fun j => ?_
              rw [List.getElem?_set]
              split
              · rename_i e; subst e; rw [ho]
              · rfl
            rw [this]
            exact (hS.non (some a) ccap w).mono fun e w' ⟨h1, h2⟩ => by
              subst h2
              exact ⟨_, J, h1, Tr.refl _ _ _ _ _, hw, .tup _ _ rfl (fun i x y hx => by simp at hx)⟩
          · rcases hv with ⟨hv, _⟩ | ⟨rfl, hv⟩
            · exact absurd hv h0
            have hbl : l.b < w.heap.size := (Array.getElem?_eq_some_iff.1 hb).1
            have hoff : off + len ≤ o.length := by omega
            have hHold : Sort.Holds (Value.int .i64) w l.b (l.sh + off) zs.toArray := fun j hj => by
              have hj' : j < len := by simpa [hzl] using hj
              obtain ⟨_, d, hd, hvr⟩ := hcell _ _ (hget j hj')
              have hd' : d = .int .i64 zs[j]! := by cases hvr; rfl
              subst hd'
              have hfro := hfr hB (l.sh + off + j) (by omega) (by omega)
              constructor
              · simp only [World.cell?, hb]
                rw [Nat.add_assoc, hd]
                simp
              · simp only [World.frozen?, hb]
                simp
                omega
            have := hS.run l.b (l.sh + off) ccap zs w hHold hbl (by omega)
            rw [hzl] at this
            refine this.mono fun e' w' ⟨h1, n, os, h2⟩ => ?_
            have hsl : (srt zs).length = len := by simp [srt, hzl]
            have hH : ∀ j, (H.set id (spl o off ((srt zs).map (Value.int .i64))))[j]? = if id = j then some (spl o off ((srt zs).map (Value.int .i64))) else H[j]? := fun j => by
              rw [List.getElem?_set]
              split
              · rfl
              · rfl
            have hkeep : Keep J H J (H.set id (spl o off ((srt zs).map (Value.int .i64)))) := fun id' o' ho' => by
              rw [hH]
              split
              · rename_i e; subst e
                rw [ho] at ho'
                cases ho'
                exact ⟨_, rfl, .inr ⟨by rw [spl_length], rfl⟩⟩
              · exact ⟨o', ho', .inr ⟨rfl, rfl⟩⟩
            have hsize : w.heap.size ≤ w'.heap.size := by
              subst h2
              simp [Sort.putRow, Sort.mapBlock, Sort.ahead]
            refine ⟨_, J, h1, ⟨hkeep, fun b hb hn => ?_, fun id' l' h => .inl ⟨l', h, rfl⟩, hsize, by subst h2; rfl, by subst h2; rfl, by subst h2; rfl⟩, ⟨fun id' o' ho' => ?_, hw.uni, fun id' hid' => hw.dom id' (by simpa using hid')⟩, .tup _ _ rfl (fun i x y hx => by simp at hx)⟩
            · subst h2
              exact putRow_old hb (hn id l hJ hB)
            · rw [hH] at ho'
              split at ho'
              · rename_i e2; subst e2
                cases ho'
                refine ⟨l, _, e, lo, hi, hJ, by subst h2; exact putRow_heap hb, by simp [Sort.putCells, hsz], by rw [spl_length]; exact hlen, fun i v hiv => ?_, hfr⟩
                rw [spl_get] at hiv
                have hil : i < o.length := by
                  split at hiv
                  · split at hiv
                    · have := (List.getElem?_eq_some_iff.1 hiv).1
                      simp [hsl] at this
                      omega
                    · cases hiv
                  · exact (List.getElem?_eq_some_iff.1 hiv).1
                obtain ⟨v0, hv0⟩ : ∃ v0, o[i]? = some v0 := ⟨_, List.getElem?_eq_getElem hil⟩
                obtain ⟨hone, d, hd, hvr⟩ := hcell _ _ hv0
                simp only [Sort.putCells, Array.getElem?_mapIdx, hd, Option.map_some, Option.some.injEq, exists_eq_left']
                by_cases hin : off ≤ i ∧ i < off + len
                · rw [if_pos (by simp [hsl]; omega)] at hiv
                  have hidx : (srt zs)[i - off]? = some (srt zs)[i - off]! := by
                    have hlt : i - off < (srt zs).length := by omega
                    rw [getElem!_pos (srt zs) (i - off) hlt, List.getElem?_eq_getElem hlt]
                  rw [List.getElem?_map, hidx] at hiv
                  simp only [Option.map_some] at hiv
                  have hv' : Value.int .i64 (srt zs)[i - off]! = v := by
                    simpa [hil] using hiv
                  subst hv'
                  rw [if_pos (by simp [hzl]; omega)]
                  have : l.sh + i - (l.sh + off) = i - off := by omega
                  rw [this]
                  refine ⟨rfl, ?_⟩
                  have e3 : (srt zs).toArray[i - off]! = (srt zs)[i - off]! := by
                    simp
                  show VRel _ _ _ (.int .i64 ((srt zs).toArray[i - off]!))
                  rw [e3]
                  exact .int _ _
                · have hiv' : o[i]? = some v := by
                    split at hiv
                    · rename_i hcc2
                      simp [hsl] at hcc2
                      omega
                    · exact hiv
                  rw [hv0] at hiv'
                  cases hiv'
                  rw [if_neg (by simp [hzl]; omega)]
                  exact ⟨hone, hvr.keep hkeep⟩
              · rename_i hne
                obtain ⟨l2, ds2, e2, lo2, hi2, q1, q2, q3, q4, q5, q6⟩ := hw.row id' o' ho'
                refine ⟨l2, ds2, e2, lo2, hi2, q1, ?_, q3, q4, fun i v hv => ⟨(q5 i v hv).1, ?_⟩, q6⟩
                · subst h2
                  rw [putRow_old (Array.getElem?_eq_some_iff.1 q2).1 (hw.uni id id' l l2 hne hB hJ q1), q2]
                · obtain ⟨_, d, hd, hvr⟩ := q5 i v hv
                  exact ⟨d, hd, hvr.keep hkeep⟩
      · cases h
    · cases h
  · cases h
end Go.Proofs.Ytceilcdhflcbpaa.Ev

/- Functions that are told by themselves: the calls, and the law's row. -/
namespace Go.Proofs.Ytceilcdhflcbpaa.Ev
set_option linter.all false
open Go RowKit

theorem Fun.prim {E : Env} {m : Md} {f : Nat} {vs : List Value} {H H' : Hp} {r : Value} {p : Md → List Value → Hp → Option (Value × Hp)} {Q : Value → Hp → Prop} (hp : E.prim f = some p) (h : p m vs H = some (r, H')) (hq : Q r H') : Fun E m f vs H Q :=
  ⟨1, r, H', by rw [evF, hp]; exact h, hq⟩

theorem Sl.sort {E : Env} {m : Md} {F : Nat} {H : Hp} {v : Value} {l : List Int} (hp : E.prim F = some sortP) (h : Sl (En eI) 1 H v l) (hle : l.length ≤ 1048576) (hw : ∀ id ∈ idsOf v, m.wr id = true) :
    Fun E m F [v] H fun r H' => r = .tuple #[] ∧ Sl (En eI) 1 H' v (srt l) ∧ (∀ j, j ∉ idsOf v → H'[j]? = H[j]?) ∧ H'.length = H.length := by
  rcases h with ⟨rfl, rfl⟩ | ⟨id, off, cap, o, rfl, ho, hc, hn, hrm, hr⟩
  · exact Fun.prim hp rfl ⟨rfl, .inl ⟨rfl, by simp [srt]⟩, fun _ _ => rfl, rfl⟩
  · have hget : ∀ i, (hi : i < l.length) → o[off + i]? = some (.int .i64 l[i]) := fun i hi => by
      have h1 := hr i l[i] (List.getElem?_eq_getElem hi)
      unfold En at h1
      simpa [eI] using getElem?_of_take h1 (j := 0) (by omega)
    have hcs : (o.drop off).take l.length = l.map (Value.int .i64) := by
      refine List.ext_getElem? fun j => ?_
      rw [List.getElem?_take, List.getElem?_map]
      split
      · rename_i hj
        rw [List.getElem?_drop, hget j hj, List.getElem?_eq_getElem hj]
        rfl
      · rename_i hj
        rw [List.getElem?_eq_none (by omega)]
        rfl
    have hz : ((o.drop off).take l.length).map toI = l := by
      rw [hcs, List.map_map]
      exact List.map_id l
    have hall : ((o.drop off).take l.length).all isI = true := by
      rw [hcs, List.all_map]
      exact List.all_eq_true.2 fun _ _ => rfl
    have hsl : (srt l).length = l.length := by simp [srt]
    have hidl := (List.getElem?_eq_some_iff.1 ho).1
    refine Fun.prim hp (r := .tuple #[]) (H' := H.set id (spl o off ((srt l).map (Value.int .i64)))) ?_ ⟨rfl, .inr ⟨id, off, cap, _, by rw [hsl], List.getElem?_set_self hidl, by rw [spl_length]; exact hc, by rw [hsl]; exact hn, by rw [hsl]; exact hrm, fun i a hi => ?_⟩, fun j hj => ?_, by simp⟩
    · unfold sortP
      simp only [ho]
      rw [if_pos ⟨hc, by omega, hw id (by simp [idsOf]), by omega, hall⟩, hz]
    · have hil : i < l.length := by rw [← hsl]; exact (List.getElem?_eq_some_iff.1 hi).1
      unfold En eI
      refine List.ext_getElem? fun j => ?_
      rw [take_drop_get]
      by_cases hj : j < 1
      · have : j = 0 := by omega
        subst this
        rw [if_pos hj, spl_get, if_pos (by simp [hsl]; omega), if_pos (by omega), List.getElem?_map, show off + i * 1 + 0 - off = i by omega, hi]
        rfl
      · rw [if_neg hj, List.getElem?_eq_none (by simp; omega)]
    · rw [List.getElem?_set_ne]
      simp [idsOf] at hj
      omega

/-- The law's row where slices.Sort stands by its contract. -/
theorem law_run_s {P : Program} {E : Env} {hv : Nat → Nat → Bool} {J : Inj} {M : Hp} {w : World} {vs : List Value} {cs : Array Value} {f F : Nat} (hmix : P.follows .mixedOrders = true) (hE : E.fns = fnsOf P hv) (hp : ∀ f p, E.prim f = some p → f = F ∧ p = sortP) (hS : SortOk P F) (hr : RdRel J M w) (hl : LRel J M vs cs.toList)
    (h : Fun E { wr := fun id => decide (M.length ≤ id), nr := false } f vs M fun r _ => r = .bool true) : Calls P f cs w fun e w' => e = .returned (.bool true) ∧ Below w.heap.size w w' := by
  obtain ⟨k, r, H', h1, rfl⟩ := h
  refine law_calls hmix hE (fun f p h => ?_) (fun f p h => ?_) h1 hr hl
  · obtain ⟨rfl, rfl⟩ := hp f p h
    intro m vs H r H' h2 hm hB
    exact ⟨hS.fn, fun J w cs hw hl => sortP_sound hS h2 hm hw hl⟩
  · obtain ⟨rfl, rfl⟩ := hp f p h
    exact fun m vs H r H' h2 => sortP_kp h2
end Go.Proofs.Ytceilcdhflcbpaa.Ev

/- Numbers that rise: plain. -/
namespace Go.Proofs.Ytceilcdhflcbpaa.Ev
set_option linter.all false
open Go

/-- Neighbours that are alike, once. -/
def cmpL : List Int → List Int
  | [] => []
  | [a] => [a]
  | a :: b :: t => if a = b then cmpL (b :: t) else a :: cmpL (b :: t)

theorem cmpL_snoc : ∀ (xs : List Int) (a b : Int), cmpL (xs ++ [a, b]) = if a = b then cmpL (xs ++ [a]) else cmpL (xs ++ [a]) ++ [b]
  | [], a, b => by
    by_cases h : a = b <;> simp [cmpL, h]
  | [x], a, b => by
    by_cases h : x = a <;> by_cases h2 : a = b <;> simp [cmpL, h, h2]
  | x :: y :: t, a, b => by
    have ih := cmpL_snoc (y :: t) a b
    simp only [List.cons_append] at ih ⊢
    by_cases h : x = y
    · rw [cmpL, if_pos h, cmpL, if_pos h, ih]
    · rw [cmpL, if_neg h, cmpL, if_neg h, ih]
      by_cases h2 : a = b
      · rw [if_pos h2, if_pos h2]
      · rw [if_neg h2, if_neg h2, List.cons_append]

/-- One more. -/
theorem cmpL_take {l : List Int} {k : Nat} (h : k + 1 < l.length) : cmpL (l.take (k + 2)) = if l[k] = l[k + 1] then cmpL (l.take (k + 1)) else cmpL (l.take (k + 1)) ++ [l[k + 1]] := by
  have e1 : l.take (k + 1) = l.take k ++ [l[k]] := by rw [List.take_succ_eq_append_getElem]
  have e2 : l.take (k + 2) = l.take k ++ [l[k], l[k + 1]] := by
    have h3 : l.take (k + 2) = l.take (k + 1) ++ [l[k + 1]] := by rw [show k + 2 = (k + 1) + 1 from rfl, List.take_succ_eq_append_getElem]
    rw [h3, e1, List.append_assoc]
    rfl
  rw [e2, cmpL_snoc, e1]

theorem cmpL_mem : ∀ (l : List Int) (x : Int), x ∈ cmpL l ↔ x ∈ l
  | [], x => by simp [cmpL]
  | [a], x => by simp [cmpL]
  | a :: b :: t, x => by
    have := cmpL_mem (b :: t) x
    rw [cmpL]
    split
    · rename_i h
      rw [this, h]
      simp
    · rw [List.mem_cons, this, List.mem_cons (a := x) (b := a)]

/-- Numbers that rise. -/
def Asc (l : List Int) : Prop := l.Pairwise (· < ·)

theorem cmpL_asc : ∀ (l : List Int), l.Pairwise (· ≤ ·) → Asc (cmpL l)
  | [], _ => by simp [cmpL, Asc]
  | [a], _ => by simp [cmpL, Asc]
  | a :: b :: t, h => by
    have h' := List.pairwise_cons.1 h
    have ih := cmpL_asc (b :: t) h'.2
    rw [cmpL]
    split
    · exact ih
    · rename_i hab
      refine List.pairwise_cons.2 ⟨fun x hx => ?_, ih⟩
      rw [cmpL_mem] at hx
      have h1 := h'.1 b (by simp)
      rcases List.mem_cons.1 hx with rfl | hx
      · omega
      · have := (List.pairwise_cons.1 h'.2).1 x hx
        omega

/-- Two rows of numbers that rise and hold the same are one. -/
theorem Asc.eq : ∀ {l k : List Int}, Asc l → Asc k → (∀ x, x ∈ l ↔ x ∈ k) → l = k
  | [], [], _, _, _ => rfl
  | [], b :: k, _, _, h => by have := (h b).2 (by simp); simp at this
  | a :: l, [], _, _, h => by have := (h a).1 (by simp); simp at this
  | a :: l, b :: k, hl, hk, h => by
    have hl := List.pairwise_cons.1 hl
    have hk := List.pairwise_cons.1 hk
    have hab : a = b := by
      have h1 := (h a).1 (by simp)
      have h2 := (h b).2 (by simp)
      rcases List.mem_cons.1 h1 with e | h1
      · exact e
      · rcases List.mem_cons.1 h2 with e | h2
        · exact e.symm
        · have := hk.1 a h1
          have := hl.1 b h2
          omega
    subst hab
    rw [Asc.eq hl.2 hk.2 fun x => ?_]
    have hx := h x
    constructor
    · intro hm
      rcases List.mem_cons.1 (hx.1 (List.mem_cons_of_mem _ hm)) with e | h2
      · have := hl.1 x hm
        omega
      · exact h2
    · intro hm
      rcases List.mem_cons.1 (hx.2 (List.mem_cons_of_mem _ hm)) with e | h2
      · have := hk.1 x hm
        omega
      · exact h2

theorem srt_sorted (l : List Int) : (srt l).Pairwise (· ≤ ·) := by
  have := List.pairwise_mergeSort (le := fun (x y : Int) => decide (x ≤ y)) (fun a b c h1 h2 => by simp at *; omega) (fun a b => by simp; omega) l
  exact this.imp fun h => by simpa using h
theorem srt_mem (l : List Int) (x : Int) : x ∈ srt l ↔ x ∈ l := by simp [srt]
theorem srt_len (l : List Int) : (srt l).length = l.length := by simp [srt]

/-- Sorted, each once. -/
def rsn (l : List Int) : List Int := cmpL (srt l)
theorem rsn_asc (l : List Int) : Asc (rsn l) := cmpL_asc _ (srt_sorted l)
theorem rsn_mem (l : List Int) (x : Int) : x ∈ rsn l ↔ x ∈ l := by rw [rsn, cmpL_mem, srt_mem]
end Go.Proofs.Ytceilcdhflcbpaa.Ev

/- The rest of a slice; what lies behind a place, cleared. -/
namespace Go.Proofs.Ytceilcdhflcbpaa.Ev
set_option linter.all false
open Go

section
variable {m : Md} {α : Type} {R : α → List Value → Prop} {esz : Nat} {H : Hp} {v : Value} {l : List α}

theorem Sl.drop (h : Sl R esz H v l) {i : Nat} (hi : i ≤ l.length) : ∃ v', (∀ (s : St) (x y : X), exv s.ρ x = some v → exv s.ρ y = some (.int .i64 i) → slcK s esz x (some y) none = some (.val v', s)) ∧
    (∀ j ∈ idsOf v', j ∈ idsOf v) ∧ ∀ (H' : Hp) (l' : List α), l'.length = l.length → Sl R esz H' v l' → Sl R esz H' v' (l'.drop i) := by
  rcases h with ⟨rfl, rfl⟩ | ⟨id, off, cap, o, rfl, ho, hc, hn, hrm, hr⟩
  · simp at hi
    subst hi
    refine ⟨.slice none 0 0, fun s x y hx hy => ?_, fun j hj => hj, fun H' l' hl h => by rw [List.eq_nil_of_length_eq_zero hl] at h ⊢; exact h⟩
    simp only [slcK, bnd, hx, hy]
    rfl
  · have hm : i * esz ≤ l.length * esz := Nat.mul_le_mul_right _ hi
    refine ⟨.slice (some ⟨id, off + i * esz, some esz⟩) (l.length - i) (cap - i * esz), fun s x y hx hy => ?_, fun j hj => hj, fun H' l' hl h => ?_⟩
    · simp only [slcK, bnd, hx, hy]
      rw [if_pos ⟨trivial, by omega, by omega, .inl (by omega), by simp; omega⟩]
      simp [St.val]
    · rcases h with ⟨h, _⟩ | ⟨id', off', cap', o', h, ho', hc', hn', hrm', hr'⟩
      · cases h
      · rw [← hl] at h
        cases h
        have hm' : i * esz ≤ l'.length * esz := Nat.mul_le_mul_right _ (by omega)
        refine .inr ⟨id, off + i * esz, cap - i * esz, o', by rw [List.length_drop, hl], ho', by omega, ?_, by rw [List.length_drop]; omega, fun j a hj => ?_⟩
        · rw [List.length_drop, Nat.sub_mul]; omega
        · rw [List.getElem?_drop] at hj
          have := hr' _ a hj
          rw [show off + i * esz + j * esz = off + (i + j) * esz by rw [Nat.add_mul]; omega]
          exact this

theorem Sl.cut (h : Sl R esz H v l) {i : Nat} (hi : i ≤ l.length) {zero : List Value} (hz : zero.length = esz) (hzs : zero.all scal = true) (hw : ∀ id ∈ idsOf v, m.wr id = true) : ∃ v3 v2 H', (∀ (s : St) (x y : X), exv s.ρ x = some v → exv s.ρ y = some (.int .i64 i) → slcK s esz x (some y) none = some (.val v3, s)) ∧
    (∀ (s : St) (x : X), s.H = H → exv s.ρ x = some v3 → clrK m s esz zero x = some (.val (.tuple #[]), { s with H := H' })) ∧
    (∀ (s : St) (x y : X), exv s.ρ x = some v → exv s.ρ y = some (.int .i64 i) → slcK s esz x none (some y) = some (.val v2, s)) ∧ Sl R esz H' v2 (l.take i) ∧ (∀ N, OwnS N v → OwnS N v2) ∧ (∀ j, j ∉ idsOf v → H'[j]? = H[j]?) ∧ H'.length = H.length ∧ ∀ j ∈ idsOf v2, j ∈ idsOf v := by
  rcases h with ⟨rfl, rfl⟩ | ⟨id, off, cap, o, rfl, ho, hc, hn, hrm, hr⟩
  · simp at hi
    subst hi
    refine ⟨.slice none 0 0, .slice none 0 0, H, fun s x y hx hy => ?_, fun s x hH hx => ?_, fun s x y hx hy => ?_, .inl ⟨rfl, by simp⟩, fun N h => h, fun _ _ => rfl, rfl, fun j hj => hj⟩
    · simp only [slcK, bnd, hx, hy]
      rfl
    · subst hH
      simp only [clrK, hx]
      rfl
    · simp only [slcK, bnd, hx, hy]
      rfl
  · have hm : i * esz ≤ l.length * esz := Nat.mul_le_mul_right _ hi
    have hidl := (List.getElem?_eq_some_iff.1 ho).1
    refine ⟨.slice (some ⟨id, off + i * esz, some esz⟩) (l.length - i) (cap - i * esz), .slice (some ⟨id, off, some esz⟩) i cap, H.set id (spl o (off + i * esz) (zeros (l.length - i) zero)), fun s x y hx hy => ?_, fun s x hH hx => ?_, fun s x y hx hy => ?_, .inr ⟨id, off, cap, _, by rw [List.length_take, Nat.min_eq_left hi], List.getElem?_set_self hidl, by rw [spl_length]; exact hc, by rw [List.length_take, Nat.min_eq_left hi]; omega, by rw [List.length_take]; omega, fun j a hj => ?_⟩, fun N h => ?_, fun j hj => ?_, by simp, fun j hj => hj⟩
    · simp only [slcK, bnd, hx, hy]
      rw [if_pos ⟨trivial, by omega, by omega, .inl (by omega), by simp; omega⟩]
      simp [St.val]
    · subst hH
      simp only [clrK, hx, ho]
      rw [if_pos ⟨trivial, by omega, hw id (by simp [idsOf]), hzs, by rw [Nat.sub_mul]; omega⟩]
    · simp only [slcK, bnd, hx, hy]
      rw [if_pos ⟨trivial, by omega, by omega, .inl (by omega), by simp⟩]
      simp [St.val]
    · rw [List.getElem?_take] at hj
      split at hj
      · rename_i hji
        have hm2 : (j + 1) * esz ≤ i * esz := Nat.mul_le_mul_right _ hji
        rw [Nat.succ_mul] at hm2
        rw [spl_other (.inl (by omega))]
        exact hr j a hj
      · cases hj
    · rcases h with h | ⟨id', e, ln, cp, h, hN⟩
      · cases h
      · cases h
        exact .inr ⟨_, _, _, _, rfl, hN⟩
    · rw [List.getElem?_set_ne]
      simp [idsOf] at hj
      omega
end
end Go.Proofs.Ytceilcdhflcbpaa.Ev

/- Ways that come together again; calls that may write what they are handed. -/
namespace Go.Proofs.Ytceilcdhflcbpaa.Ev
set_option linter.all false
open Go

section
variable {E : Env} {m : Md} {s : St} {Q : Ex → St → Prop} {ts : List Tk}

/-- A call that may write what it is handed, in a region with an open order too. -/
theorem callT_arg {f : Nat} {vs : List Value} {H : Hp} {P : Value → Hp → Prop} {draw : Bool} {d : Option Nat} (hpw : E.pw f = false) (h : ∀ m' : Md, Wr m' H → (∀ id ∈ vs.flatMap idsOf, m.wr id = true → m'.wr id = true) → m'.nr = m.nr → Fun E m' f vs H P) (hH : s.H = H) (hw : Wr m H)
    (hq : ∀ r H', P r H' → go E m ts { s with H := H', ρ := upd s.ρ d (.val r) } Q) : callT E m draw f (some vs) s d ts Q := by
  subst hH
  unfold callT opt
  refine Fun.mono (h _ (fun id hid => ?_) (fun id hid hm => ?_) ?_) hq
  · cases draw with
    | false => exact hw id hid
    | true => simp only [if_true, Md.drawn]; simp [hid]
  · cases draw with
    | false => exact hm
    | true =>
      simp only [if_true, Md.drawn, hpw]
      have : (vs.flatMap idsOf).contains id = true := List.contains_iff_mem.2 hid
      rw [hm, this]
      simp
  · cases draw <;> rfl
end
end Go.Proofs.Ytceilcdhflcbpaa.Ev

/- Bytes and the numbers that are written in them: plain. -/
namespace Go.Proofs.Ytceilcdhflcbpaa.Ev
set_option linter.all false
open Go

/-- A text of bytes that are told as numbers. -/
def strOf (l : List Nat) : ByteArray := ⟨(l.map UInt8.ofNat).toArray⟩
theorem strOf_size (l : List Nat) : (strOf l).size = l.length := by simp [strOf, ByteArray.size]
def varL (n : Nat) : List Nat := if n < 128 then [n] else (n % 128 + 128) :: varL (n / 128)
termination_by n

theorem varL_lt {n : Nat} (h : n < 128) : varL n = [n] := by rw [varL, if_pos h]
theorem varL_ge {n : Nat} (h : ¬ n < 128) : varL n = (n % 128 + 128) :: varL (n / 128) := by rw [varL, if_neg h]

def varB (n : Int) : ByteArray := if 0 ≤ n ∧ n ≤ 562949953421311 then strOf (varL n.toNat) else ByteArray.empty

theorem varL_pos : ∀ n : Nat, 0 < (varL n).length := fun n => by
  rw [varL]; split <;> simp

/-- So long at most. -/
theorem varL_len : ∀ (k n : Nat), n < 128 ^ (k + 1) → (varL n).length ≤ k + 1
  | 0, n, h => by rw [varL_lt (by simpa using h)]; simp
  | k + 1, n, h => by
    by_cases h1 : n < 128
    · rw [varL_lt h1]; simp
    · rw [varL_ge h1]
      have := varL_len k (n / 128) (by rw [Nat.div_lt_iff_lt_mul (by decide)]; rw [Nat.pow_succ] at h; exact h)
      simp; omega

/-- All but the last have their highest bit; the last hasn't. -/
theorem varL_bits : ∀ (n : Nat) (i b : Nat), (varL n)[i]? = some b → b < 256 ∧ (i + 1 < (varL n).length → 128 ≤ b) ∧ (i + 1 = (varL n).length → b < 128) := fun n => by
  induction n using Nat.strongRecOn with
  | _ n ih =>
    intro i b hb
    by_cases h : n < 128
    · rw [varL_lt h] at hb ⊢
      cases i with
      | zero => simp at hb; subst hb; exact ⟨by omega, by simp, fun _ => h⟩
      | succ i => simp at hb
    · rw [varL_ge h] at hb ⊢
      cases i with
      | zero =>
        simp at hb
        subst hb
        refine ⟨by omega, fun _ => by omega, fun h2 => ?_⟩
        have := varL_pos (n / 128)
        simp only [List.length_cons] at h2
        omega
      | succ i =>
        rw [List.getElem?_cons_succ] at hb
        have := ih (n / 128) (by omega) i b hb
        refine ⟨this.1, fun h2 => this.2.1 (by simp at h2; omega), fun h2 => this.2.2 (by simp at h2; omega)⟩

/-- What so many bytes say. -/
def valB (s : ByteArray) : Nat → Nat
  | 0 => 0
  | k + 1 => valB s k + (match s[k]? with | some b => b.toNat % 128 | none => 0) * 128 ^ k

theorem valB_lt (s : ByteArray) : ∀ k, valB s k < 128 ^ k
  | 0 => by simp [valB]
  | k + 1 => by
    have := valB_lt s k
    rw [valB, Nat.pow_succ]
    generalize hd : (match s[k]? with | some b => b.toNat % 128 | none => 0) = d
    have h2 : d ≤ 127 := by
      subst hd
      split
      · exact Nat.le_of_lt_succ (Nat.mod_lt _ (by decide))
      · exact Nat.zero_le _
    have h3 := Nat.mul_le_mul_right (128 ^ k) h2
    generalize d * 128 ^ k = q at h3
    omega

/-- Is that the number's text? -/
def isV (s : ByteArray) (k : Nat) : Prop := varB (valB s k) = s.extract 0 k

/-- The number that a text begins with, and how many bytes it has; none without one. -/
def readV (s : ByteArray) (n k : Nat) : Prop := 1 ≤ k ∧ k ≤ 7 ∧ k ≤ s.size ∧ n = valB s k ∧ isV s k
end Go.Proofs.Ytceilcdhflcbpaa.Ev

/- Terms: plain. -/
namespace Go.Proofs.Ytceilcdhflcbpaa.Ev
set_option linter.all false
open Go

/-- The text from a place on. -/
def rest (s : ByteArray) (at_ : Nat) : ByteArray := s.extract at_ s.size
theorem readV.max {s : ByteArray} {n k : Nat} (h : readV s n k) : n ≤ 562949953421311 := by
  obtain ⟨h1, h2, h3, h4, h5⟩ := h
  have := valB_lt s k
  have h6 : 128 ^ k ≤ 128 ^ 7 := Nat.pow_le_pow_right (by decide) h2
  have h7 : (128 : Nat) ^ 7 = 562949953421312 := by decide
  omega

theorem varB_size (n : Int) : (varB n).size ≤ 7 := by
  unfold varB
  split
  · rename_i h
    rw [strOf_size]
    refine varL_len 6 _ ?_
    have h7 : (128 : Nat) ^ (6 + 1) = 562949953421312 := by decide
    omega
  · simp

end Go.Proofs.Ytceilcdhflcbpaa.Ev

/- Rows of bytes, and the texts made of them. -/
namespace Go.Proofs.Ytceilcdhflcbpaa.Ev
set_option linter.all false
open Go

def eN (n : Nat) : List Value := [.int .u8 (n : Int)]
abbrev SlN (H : Hp) (v : Value) (l : List Nat) : Prop := Sl (En eN) 1 H v l

theorem Sl.oneN {m : Md} {N : Nat} {H : Hp} {v : Value} {l : List Nat} (a : Nat) (h : SlN H v l) (ho : OwnS N v) (hN : N ≤ H.length) (hw : ∀ id, N ≤ id → m.wr id = true) (hb : l.length < 1048576) :
    ∃ v' H', (∀ (s : St) (x y : X), s.H = H → exv s.ρ x = some v → ex s.ρ y = .vs 1 [.int .u8 (a : Int)] → appK m s 1 1 x y = some (.val v', { s with H := H' })) ∧ SlN H' v' (l ++ [a]) ∧ OwnS N v' ∧
      (∀ j, j < H.length → j ∉ idsOf v → H'[j]? = H[j]?) ∧ H.length ≤ H'.length ∧ (∀ j ∈ idsOf v', j ∈ idsOf v ∨ H.length ≤ j) ∧ ∀ H0 : Hp, H0.length ≤ N → H0 <+: H → H0 <+: H' := by
  obtain ⟨v', H', h1, h2⟩ := h.app (m := m) (n := 1) (bytes := 1) (l2 := [a]) (cs := [.int .u8 (a : Int)]) ho hN hw (fun _ => rfl) (by simp) rfl (fun i b hi => by
    cases i with
    | zero => simp at hi; subst hi; rfl
    | succ i => simp at hi) (by unfold Ev.room; simp; omega) (by unfold Ev.room; simp; omega)
  exact ⟨v', H', fun s x y hH hx hy => h1 s x y hH hx (by rw [hy]; rfl), h2⟩

theorem bytesOf_map : ∀ {l : List Nat}, (∀ n ∈ l, n < 256) → bytesOf (l.map fun (n : Nat) => Value.int .u8 (n : Int)) = some (l.map UInt8.ofNat)
  | [], _ => rfl
  | a :: l, h => by
    have ih := bytesOf_map (l := l) fun n hn => h n (List.mem_cons_of_mem _ hn)
    have ha := h a (by simp)
    simp only [List.map_cons, bytesOf, ih, byteOf, Int.toNat_natCast]

theorem Sl.b2s {H : Hp} {v : Value} {l : List Nat} (h : SlN H v l) (hl : ∀ n ∈ l, n < 256) : ∀ (s : St) (x : X), s.H = H → ex s.ρ x = .val v → b2sK s x = some (.val (.string (strOf l)), s) := by
  obtain ⟨cs, h1, h2, h3⟩ := h.src
  intro s x hH hx
  have hcs : cs = l.map fun (n : Nat) => Value.int .u8 (n : Int) := by
    refine List.ext_getElem? fun j => ?_
    rw [List.getElem?_map]
    by_cases hj : j < l.length
    · have := h3 j _ (List.getElem?_eq_getElem hj)
      unfold En eN at this
      have h4 := getElem?_of_take this (j := 0) (by omega)
      rw [Nat.mul_one, Nat.add_zero] at h4
      rw [h4, List.getElem?_eq_getElem hj]
      rfl
    · rw [List.getElem?_eq_none (by omega), List.getElem?_eq_none (by omega)]
      rfl
  unfold b2sK
  rw [hx, hH, h1]
  simp only
  rw [hcs, bytesOf_map hl]
  rfl

theorem wrap8 (n : Int) (h0 : 0 ≤ n) (h1 : n < 256) : IntKind.u8.wrap n = n := by
  simp [IntKind.wrap, IntKind.bits, IntKind.signed]
  omega

theorem own_newN {H : Hp} : SlN (H ++ [[]]) (.slice (some ⟨H.length, 0, some 1⟩) 0 (0 * 1)) [] := .inr ⟨H.length, 0, 0, [], rfl, by simp, by simp, by simp, by simp, fun i a hi => by simp at hi⟩

theorem and7 {k : Nat} (h : k < 9223372036854775808) : IntKind.i64.wrap ((BitVec.ofInt IntKind.i64.bits (k : Int) &&& BitVec.ofInt IntKind.i64.bits 127).toNat : Int) = ((k % 128 : Nat) : Int) := by
  have h1 : (BitVec.ofInt IntKind.i64.bits (k : Int) &&& BitVec.ofInt IntKind.i64.bits 127).toNat = k % 128 := by
    show (BitVec.ofInt 64 (k : Int) &&& BitVec.ofInt 64 127).toNat = _
    rw [BitVec.toNat_and, BitVec.toNat_ofInt, BitVec.toNat_ofInt]
    have e1 : ((k : Int) % ((2 ^ 64 : Nat) : Int)).toNat = k := by
      rw [Int.emod_eq_of_lt (by omega) (by omega)]
      simp
    rw [e1]
    exact Nat.and_two_pow_sub_one_eq_mod k 7
  rw [h1, wrap64 _ (by omega) (by omega)]

theorem or128 {k : Nat} (h : k < 128) : IntKind.i64.wrap ((BitVec.ofInt IntKind.i64.bits (k : Int) ||| BitVec.ofInt IntKind.i64.bits 128).toNat : Int) = ((k + 128 : Nat) : Int) := by
  have h1 : (BitVec.ofInt IntKind.i64.bits (k : Int) ||| BitVec.ofInt IntKind.i64.bits 128).toNat = k + 128 := by
    show (BitVec.ofInt 64 (k : Int) ||| BitVec.ofInt 64 128).toNat = _
    rw [BitVec.toNat_or, BitVec.toNat_ofInt, BitVec.toNat_ofInt]
    have e1 : ((k : Int) % ((2 ^ 64 : Nat) : Int)).toNat = k := by
      rw [Int.emod_eq_of_lt (by omega) (by omega)]
      simp
    rw [e1]
    show k ||| 128 = k + 128
    have := Nat.two_pow_add_eq_or_of_lt (i := 7) (b := k) (by omega) 1
    rw [Nat.or_comm]
    simp at this
    omega
  rw [h1, wrap64 _ (by omega) (by omega)]

end Go.Proofs.Ytceilcdhflcbpaa.Ev

/- A number's text, and what follows it, read again: plain. -/
namespace Go.Proofs.Ytceilcdhflcbpaa.Ev
set_option linter.all false
open Go

theorem cat_left {a b : ByteArray} {i : Nat} (h : i < a.size) : (a ++ b)[i]? = a[i]? := by
  show (a ++ b).data[i]? = a.data[i]?
  rw [ByteArray.data_append, Array.getElem?_append_left (show i < a.data.size from h)]
end Go.Proofs.Ytceilcdhflcbpaa.Ev

/- A row of plain elements behind another one; one element taken out of a row. -/
namespace Go.Proofs.Ytceilcdhflcbpaa.Ev
set_option linter.all false
open Go

section
variable {m : Md} {α : Type} {enc : α → List Value} {esz : Nat} {H : Hp} {v u : Value} {l l2 : List α}

theorem chunks_scal {cs : List Value} (he : ∀ a, (enc a).all scal = true) (h0 : 0 < esz) (hl : cs.length = l.length * esz) (hel : ∀ (i : Nat) a, l[i]? = some a → En enc a ((cs.drop (i * esz)).take esz)) : cs.all scal = true := by
  rw [List.all_eq_true]
  intro c hc
  obtain ⟨j, hj⟩ := List.getElem?_of_mem hc
  have hjl := (List.getElem?_eq_some_iff.1 hj).1
  have hdiv : j / esz < l.length := (Nat.div_lt_iff_lt_mul h0).2 (by omega)
  have := hel _ _ (List.getElem?_eq_getElem hdiv)
  unfold En at this
  have hmod := Nat.mod_lt j h0
  have h3 := getElem?_of_take this (j := j % esz) hmod
  have e : j / esz * esz + j % esz = j := by rw [Nat.mul_comm]; exact Nat.div_add_mod j esz
  rw [e, hj] at h3
  have := he l[j / esz]
  rw [List.all_eq_true] at this
  exact this c (List.mem_of_getElem? h3.symm)

theorem Sl.join {N bytes : Nat} (h : Sl (En enc) esz H v l) (h2 : Sl (En enc) esz H u l2) (he : ∀ a, (enc a).all scal = true) (h0 : 0 < esz) (ho : OwnS N v) (hN : N ≤ H.length) (hw : ∀ id, N ≤ id → m.wr id = true)
    (hb : (l.length + l2.length) * bytes ≤ Ev.room) (hb2 : l.length + l2.length ≤ Ev.room) :
    ∃ v' H', (∀ (s : St) (x y : X), s.H = H → exv s.ρ x = some v → ex s.ρ y = .val u → appK m s esz bytes x y = some (.val v', { s with H := H' })) ∧ Sl (En enc) esz H' v' (l ++ l2) ∧ OwnS N v' ∧
      (∀ j, j < H.length → j ∉ idsOf v → H'[j]? = H[j]?) ∧ H.length ≤ H'.length ∧ (∀ j ∈ idsOf v', j ∈ idsOf v ∨ H.length ≤ j) ∧ ∀ H0 : Hp, H0.length ≤ N → H0 <+: H → H0 <+: H' := by
  obtain ⟨cs, hsrc, hcs, hel⟩ := h2.src
  by_cases hn : l2.length = 0
  · have : l2 = [] := List.eq_nil_of_length_eq_zero hn
    subst this
    refine ⟨v, H, fun s x y hH hx hy => ?_, by simpa using h, ho, fun _ _ _ => rfl, Nat.le_refl _, fun j hj => .inl hj, fun _ _ h => h⟩
    subst hH
    unfold appK
    rw [hx, hy, hsrc]
    rcases h with ⟨rfl, _⟩ | ⟨_, _, _, _, rfl, _⟩ <;> rfl
  · obtain ⟨v', H', h1, h2'⟩ := h.app (m := m) (n := 1) (bytes := bytes) (l2 := l2) (cs := cs) ho hN hw (fun _ => chunks_scal he h0 hcs hel) (by omega) hcs hel hb hb2
    exact ⟨v', H', fun s x y hH hx hy => h1 s x y hH hx (by rw [hy]; exact hsrc), h2'⟩

theorem chunk_at {o : List Value} {p n k : Nat} (h : k < n) : ((o.drop p).take n)[k]? = o[p + k]? := by rw [take_drop_get, if_pos h]

end
end Go.Proofs.Ytceilcdhflcbpaa.Ev

/- Terms within longer texts; what was written is read back: plain. -/
namespace Go.Proofs.Ytceilcdhflcbpaa.Ev
set_option linter.all false
open Go

theorem valB_ext {s y : ByteArray} : ∀ {k : Nat}, k ≤ s.size → valB (s ++ y) k = valB s k
  | 0, _ => rfl
  | k + 1, h => by rw [valB, valB, valB_ext (by omega), cat_left (by omega)]
theorem extract_ext {s y : ByteArray} {a k : Nat} (h : k ≤ s.size) : (s ++ y).extract a k = s.extract a k := by
  refine ByteArray.ext ?_
  rw [ByteArray.data_extract, ByteArray.data_extract, ByteArray.data_append, Array.extract_append]
  have : s.size = s.data.size := rfl
  have h2 : k - s.data.size = 0 := by omega
  rw [h2]
  simp
theorem readV.ext {s y : ByteArray} {n k : Nat} (h : readV s n k) : readV (s ++ y) n k := by
  obtain ⟨h1, h2, h3, h4, h5⟩ := h
  refine ⟨h1, h2, by rw [ByteArray.size_append]; omega, by rw [valB_ext h3]; exact h4, ?_⟩
  unfold isV
  rw [valB_ext h3, extract_ext h3]
  exact h5
end Go.Proofs.Ytceilcdhflcbpaa.Ev

/- An element read and written; the front of a row of one's own; shared. -/
namespace Go.Proofs.Ytceilcdhflcbpaa.Ev
set_option linter.all false
open Go

theorem Sl.both {α : Type} {R : α → List Value → Prop} {esz : Nat} {H : Hp} {v : Value} {l : List α} (h : Sl R esz H v l) {i : Nat} (hi : i < l.length) : ∃ id p o, H[id]? = some o ∧ p + esz ≤ o.length ∧ idsOf v = [id] ∧ R l[i] ((o.drop p).take esz) ∧
    (∀ (s : St) (x y : X), exv s.ρ x = some v → exv s.ρ y = some (.int .i64 i) → iadrK s esz x y = some (.val (.pointer (some ⟨id, p, some o.length⟩)), s)) ∧
    ∀ a cs, cs.length = esz → R a cs → Sl R esz (H.set id (spl o p cs)) v (l.set i a) := by
  obtain ⟨id, p, o, h1, h2, h3, h4, h5⟩ := h.store hi
  obtain ⟨id', p', o', g1, g2, g3, g4⟩ := h.elem (List.getElem?_eq_getElem hi)
  have e1 := h4 { ρ := fun t => if t = 0 then .val v else .val (.int .i64 i), gn := 0, H := [] } (.t 0) (.t 1) rfl rfl
  have e2 := g4 { ρ := fun t => if t = 0 then .val v else .val (.int .i64 i), gn := 0, H := [] } (.t 0) (.t 1) rfl rfl
  rw [e1] at e2
  simp only [Option.some.injEq, Prod.mk.injEq, FV.val.injEq, Value.pointer.injEq, Addr.mk.injEq, and_true] at e2
  obtain ⟨rfl, rfl, _⟩ := e2
  rw [h1] at g1
  cases g1
  exact ⟨id, p, o, h1, h2, h3, g2, h4, h5⟩
theorem spl_one {o cs : List Value} {p n j : Nat} {x : Value} (hc : (o.drop p).take n = cs) (hj : j < n) (hl : p + n ≤ o.length) : spl o (p + j) [x] = spl o p (cs.set j x) := by
  have hcl : cs.length = n := by rw [← hc, List.length_take, List.length_drop]; omega
  refine List.ext_getElem? fun k => ?_
  rw [spl_get, spl_get, List.length_set, hcl]
  by_cases hk : p ≤ k ∧ k < p + n
  · have hko : k < o.length := by omega
    rw [if_pos hk]
    simp only [if_pos hko]
    obtain ⟨hk1, hk2⟩ := hk
    by_cases hkj : k = p + j
    · subst hkj
      rw [if_pos (by simp), Nat.add_sub_cancel_left, List.getElem?_set_self (by omega), Nat.sub_self]
      rfl
    · rw [if_neg (by simp; omega), List.getElem?_set_ne (by omega), ← hc, chunk_at (by omega)]
      congr 1
      omega
  · rw [if_neg hk, if_neg (by simp; omega)]


end Go.Proofs.Ytceilcdhflcbpaa.Ev

/- The machine's rules under one name. -/
namespace Go.Proofs.Ytceilcdhflcbpaa.Ev
set_option linter.all false
open Go
attribute [go_sem] go_nil go_blk go_skip go_ret go_exit go_seq go_block go_reg go_r0 go_r go_d0 go_d go_e0 go_e box2 Option.isSome_some Nat.le_refl go_cond go_o go_g aft_some cnd_bool grd_bool grd_tup brT_true brT_false brT_not thr_exit thr_c thr_nil stp stepK movK mv1 ex exv exvs upd_some upd_none ini St.val binK binV ofV pickK unK unV beqK beq_true beq_false if_true if_false List.getElem?_cons_zero List.getElem?_cons_succ loadK adr deref Ad.fv Ad.live fadrK List.length_cons List.length_nil List.drop_zero List.drop_succ_cons List.take_succ_cons List.take_zero Nat.zero_add Nat.add_zero aeqK agEq scEq boxVK newVK exc vc_agg vc_int vc_bool vc_str vc_ptr vc_sl vc_fn boxOf adInf List.reverse_cons List.reverse_nil List.nil_append List.cons_append extK Bool.and_true Bool.true_and Bool.not_true Bool.not_false resT resVs resV true_and and_true storeK spl_nil spl_z spl_1 spl_2 spl_3 spl_4 spl_5 spl_6 spl_7 spl_8 scal_int scal_bool scal_str scal_nil implies_true Bool.and_self Post_ret Post_normal PostS_ret PostS_normal retT_true retT_false flat_bool flat_int flat_str List.take_length decide_true decide_false Option.some.injEq Value.bool.injEq Value.int.injEq Bool.false_and Bool.and_false not_false_eq_true not_true_eq_false toIntK List.length_set Bool.not_eq_true Bool.not_eq_false List.all_cons List.all_nil exps fillL buildK strK nilcK fnK callVT List.size_toArray List.append_nil List.singleton_append boxOK newOK List.isEmpty_nil List.isEmpty_cons mkVK mkOK mkCells zeros_0 zeros_1 zeros_2 zeros_3 zeros_4 List.map_cons List.map_nil
end Go.Proofs.Ytceilcdhflcbpaa.Ev

/- The seat's program on the small machine: which slots hold boxes of their own, which functions leave memory as it is. -/
namespace Go.Proofs.Ytceilcdhflcbpaa.Ev
set_option linter.all false
open Go
def hvT : List (Nat × List Nat) := [(4, [10, 13]), (6, [3]), (7, [7, 9, 12, 22, 24, 26, 28]), (8, [13]), (14, [8, 10, 13]), (15, [8, 10, 13]), (16, [2, 3]), (17, [30]), (18, [7, 25]), (21, [3, 56, 60]), (22, [1, 2, 3]), (23, [3, 8, 42, 47]), (26, [3, 5]), (32, [9]), (33, [6, 8]), (35, [5]), (36, [3, 5]), (37, [34]), (38, [3]), (40, [1]), (41, [1]), (43, [2]), (53, [27]), (54, [2, 3]), (55, [7, 36, 44, 68, 100]), (57, [7, 27]), (61, [1]), (63, [2]), (65, [4]), (66, [4, 6]), (68, [1]), (69, [15, 22]), (70, [2, 3, 24]), (71, [2, 3]), (72, [2]), (73, [2]), (78, [1]), (79, [1]), (80, [2, 3, 4, 38]), (82, [5, 25]), (86, [2, 3, 4, 5, 52])]
def hv (f t : Nat) : Bool := match hvT.find? (·.1 == f) with | some p => p.2.contains t | none => false
def trT : List Nat := [10, 12, 13, 14, 15, 16, 22, 24, 40, 41, 42, 43, 44, 45, 46, 47, 48, 49, 51, 52, 54, 58, 74, 75, 76, 77, 34, 35, 38, 39, 56, 60, 61, 62, 63, 64, 67, 68, 69, 71, 72, 73, 78, 79, 83, 84, 85, 87, 88, 89, 90, 91, 93, 94, 95, 96, 97, 98]
noncomputable def EE : Env := { fns := fnsOf Go.Proofs.Try.prog hv, prim := fun f => if f = 99 then some sortP else none, pw := fun _ => false, tr := fun f => trT.contains f }
end Go.Proofs.Ytceilcdhflcbpaa.Ev

/- Code of the program's functions, as the small machine has it: written by mkcode.py. -/
namespace Go.Proofs.Ytceilcdhflcbpaa.Ev
set_option linter.all false
open Go
def c7 : CF := ⟨194, (.seq (.reg false [⟨(some 2), .none, (.mov (.c (.bool false))), 0, []⟩]) (.seq (.seq (.reg false [⟨(some 30), .none, (.mov (.t 0)), 0, []⟩, ⟨(some 31), .none, (.call 24 [(.t 30)]), 1, []⟩]) (.cond (.t 31) (.seq (.reg false [⟨(some 2), .none, (.mov (.c (.bool true))), 0, []⟩]) .ret) .skip)) (.seq (.reg false [⟨(some 33), .none, (.mov (.t 0)), 0, []⟩, ⟨(some 34), .none, (.call 25 [(.t 33)]), 1, []⟩, ⟨(some 32), .none, (.mov (.t 34)), 2, []⟩, ⟨(some 35), .none, (.ext (.t 32) 0), 3, []⟩, ⟨(some 36), .none, (.ext (.t 32) 1), 4, []⟩, ⟨(some 37), .none, (.ext (.t 32) 2), 5, []⟩, ⟨(some 38), .none, (.ext (.t 32) 3), 6, []⟩, ⟨(some 3), .none, (.mov (.t 35)), 7, []⟩, ⟨(some 4), .none, (.mov (.t 36)), 8, []⟩, ⟨(some 5), .none, (.mov (.t 37)), 9, []⟩, ⟨(some 6), .none, (.mov (.t 38)), 10, []⟩]) (.seq (.reg false [⟨(some 40), .none, (.mov (.t 3)), 0, []⟩, ⟨(some 41), .none, (.mov (.t 4)), 1, []⟩, ⟨(some 42), .none, (.mov (.t 5)), 2, []⟩, ⟨(some 43), .none, (.mov (.t 6)), 3, []⟩, ⟨(some 44), .none, (.call 15 [(.t 40), (.t 41), (.t 42), (.t 43)]), 4, []⟩, ⟨(some 39), .none, (.mov (.t 44)), 5, []⟩, ⟨(some 45), .none, (.ext (.t 39) 0), 6, []⟩, ⟨(some 46), .none, (.ext (.t 39) 1), 7, []⟩, ⟨(some 7), .none, (.newV [(.int .i64 0), (.int .i64 0), (.int .i64 0), (.int .i64 0), (.int .i64 0)]), 8, []⟩, ⟨.none, .none, (.store 5 (.t 7) (.t 45)), 9, []⟩, ⟨(some 8), .none, (.mov (.t 46)), 10, []⟩]) (.seq (.reg false [⟨(some 48), .none, (.mov (.t 3)), 0, []⟩, ⟨(some 49), .none, (.mov (.t 4)), 1, []⟩, ⟨(some 50), .none, (.mov (.t 5)), 2, []⟩, ⟨(some 51), .none, (.mov (.t 6)), 3, []⟩, ⟨(some 52), .none, (.call 14 [(.t 48), (.t 49), (.t 50), (.t 51)]), 4, []⟩, ⟨(some 47), .none, (.mov (.t 52)), 5, []⟩, ⟨(some 53), .none, (.ext (.t 47) 0), 6, []⟩, ⟨(some 54), .none, (.ext (.t 47) 1), 7, []⟩, ⟨(some 9), .none, (.newV [(.int .i64 0), (.int .i64 0), (.int .i64 0), (.int .i64 0), (.int .i64 0)]), 8, []⟩, ⟨.none, .none, (.store 5 (.t 9) (.t 53)), 9, []⟩, ⟨(some 10), .none, (.mov (.t 54)), 10, []⟩]) (.seq (.seq (.reg false [⟨(some 55), .none, (.mov (.t 8)), 0, []⟩, ⟨(some 56), .none, (.mov (.t 10)), 1, []⟩, ⟨(some 57), .none, (.beq true (.t 55) (.t 56)), 2, []⟩, ⟨(some 58), .none, (.mov (.t 57)), 3, []⟩, ⟨(some 59), (.some (58, false)), (.load 5 true (.t 7)), 4, []⟩, ⟨(some 60), (.some (58, false)), (.load 5 true (.t 9)), 5, []⟩, ⟨(some 61), (.some (58, false)), (.aeq true [0, 0, 0, 0, 0] (.t 59) (.t 60)), 6, []⟩, ⟨(some 62), .none, (.pick (.t 58) (.c (.bool true)) (.t 61)), 7, []⟩]) (.cond (.t 62) (.seq (.reg false [⟨(some 2), .none, (.mov (.c (.bool false))), 0, []⟩]) .ret) .skip)) (.seq (.reg false [⟨(some 64), .none, (.mov (.t 0)), 0, []⟩, ⟨(some 65), .none, (.call 26 [(.t 64)]), 1, []⟩, ⟨(some 63), .none, (.mov (.t 65)), 2, []⟩, ⟨(some 66), .none, (.ext (.t 63) 0), 3, []⟩, ⟨(some 67), .none, (.ext (.t 63) 1), 4, []⟩, ⟨(some 12), .none, (.newV [(.int .i64 0), (.int .i64 0), (.int .i64 0), (.int .i64 0), (.int .i64 0)]), 5, []⟩, ⟨(some 11), .none, (.mov (.t 66)), 6, []⟩, ⟨.none, .none, (.store 5 (.t 12) (.t 67)), 7, []⟩]) (.seq (.reg false [⟨(some 69), .none, (.mov (.t 11)), 0, []⟩, ⟨(some 70), .none, (.load 5 true (.t 12)), 1, []⟩, ⟨(some 71), .none, (.call 23 [(.t 69), (.t 70)]), 2, []⟩, ⟨(some 68), .none, (.mov (.t 71)), 3, []⟩, ⟨(some 72), .none, (.ext (.t 68) 0), 4, []⟩, ⟨(some 73), .none, (.ext (.t 68) 1), 5, []⟩, ⟨(some 13), .none, (.mov (.t 72)), 6, []⟩, ⟨(some 14), .none, (.mov (.t 73)), 7, []⟩]) (.seq (.reg false [⟨(some 75), .none, (.mov (.t 11)), 0, []⟩, ⟨(some 76), .none, (.load 5 true (.t 12)), 1, []⟩, ⟨(some 77), .none, (.call 21 [(.t 75), (.t 76)]), 2, []⟩, ⟨(some 74), .none, (.mov (.t 77)), 3, []⟩, ⟨(some 78), .none, (.ext (.t 74) 0), 4, []⟩, ⟨(some 79), .none, (.ext (.t 74) 1), 5, []⟩, ⟨(some 15), .none, (.mov (.t 78)), 6, []⟩, ⟨(some 16), .none, (.mov (.t 79)), 7, []⟩]) (.seq (.seq (.reg false [⟨(some 80), .none, (.mov (.t 14)), 0, []⟩, ⟨(some 81), .none, (.mov (.t 16)), 1, []⟩, ⟨(some 82), .none, (.beq true (.t 80) (.t 81)), 2, []⟩]) (.cond (.t 82) (.seq (.reg false [⟨(some 2), .none, (.mov (.c (.bool false))), 0, []⟩]) .ret) .skip)) (.seq (.seq (.reg false [⟨(some 83), .none, (.mov (.t 11)), 0, []⟩, ⟨(some 84), .none, (.call 10 [(.t 83)]), 1, []⟩, ⟨(some 85), .none, (.un .not (.t 84)), 2, []⟩]) (.cond (.t 85) (.seq (.reg false [⟨(some 86), .none, (.mov (.t 13)), 0, []⟩, ⟨(some 87), .none, (.lenS (.t 86)), 1, []⟩, ⟨(some 88), .none, (.bin .eql (.t 87) (.c (.int .i64 0))), 2, []⟩, ⟨(some 89), .none, (.mov (.t 88)), 3, []⟩, ⟨(some 90), (.some (89, true)), (.mov (.t 14)), 4, []⟩, ⟨(some 91), (.some (89, true)), (.un .not (.t 90)), 5, []⟩, ⟨(some 92), .none, (.pick (.t 89) (.t 91) (.c (.bool false))), 6, []⟩, ⟨(some 2), .none, (.mov (.t 92)), 7, []⟩]) .ret) .skip)) (.seq (.seq (.reg false [⟨(some 93), .none, (.mov (.t 13)), 0, []⟩, ⟨(some 94), .none, (.call 10 [(.t 93)]), 1, []⟩, ⟨(some 95), .none, (.un .not (.t 94)), 2, []⟩, ⟨(some 96), .none, (.mov (.t 95)), 3, []⟩, ⟨(some 97), (.some (96, false)), (.mov (.t 14)), 4, []⟩, ⟨(some 98), (.some (96, false)), (.un .not (.t 97)), 5, []⟩, ⟨(some 99), (.some (96, false)), (.mov (.t 98)), 6, []⟩, ⟨(some 100), (.some (99, true)), (.mov (.t 13)), 7, []⟩, ⟨(some 101), (.some (99, true)), (.lenS (.t 100)), 8, []⟩, ⟨(some 102), (.some (99, true)), (.mov (.t 11)), 9, []⟩, ⟨(some 103), (.some (99, true)), (.lenS (.t 102)), 10, []⟩, ⟨(some 104), (.some (99, true)), (.bin .neq (.t 101) (.t 103)), 11, []⟩, ⟨(some 105), (.some (96, false)), (.pick (.t 99) (.t 104) (.c (.bool false))), 12, []⟩, ⟨(some 106), .none, (.pick (.t 96) (.c (.bool true)) (.t 105)), 13, []⟩]) (.cond (.t 106) (.seq (.reg false [⟨(some 2), .none, (.mov (.c (.bool false))), 0, []⟩]) .ret) .skip)) (.seq (.reg false [⟨(some 108), .none, (.mov (.t 0)), 0, []⟩, ⟨(some 109), .none, (.call 27 [(.t 108)]), 1, []⟩, ⟨(some 107), .none, (.mov (.t 109)), 2, []⟩, ⟨(some 110), .none, (.ext (.t 107) 0), 3, []⟩, ⟨(some 111), .none, (.ext (.t 107) 1), 4, []⟩, ⟨(some 17), .none, (.mov (.t 110)), 5, []⟩, ⟨(some 18), .none, (.mov (.t 111)), 6, []⟩]) (.seq (.reg false [⟨(some 112), .none, (.mov (.t 17)), 0, []⟩, ⟨(some 113), .none, (.mov (.t 18)), 1, []⟩, ⟨(some 114), .none, (.call 18 [(.t 112), (.t 113)]), 2, []⟩, ⟨(some 19), .none, (.mov (.t 114)), 3, []⟩]) (.seq (.seq (.reg false [⟨(some 20), .none, (.mov (.c (.int .i64 0))), 0, []⟩]) (.block 0 (.loop (.seq (.seq (.reg false [⟨(some 115), .none, (.mov (.t 20)), 0, []⟩, ⟨(some 116), .none, (.mov (.t 19)), 1, []⟩, ⟨(some 117), .none, (.lenS (.t 116)), 2, []⟩, ⟨(some 118), .none, (.bin .lss (.t 115) (.t 117)), 3, []⟩]) (.cond (.t 118) .skip (.exit 0))) (.seq (.block 1 (.seq (.reg false [⟨(some 121), .none, (.mov (.t 19)), 0, []⟩, ⟨(some 122), .none, (.mov (.t 20)), 1, []⟩, ⟨(some 123), .none, (.iadr 5 (.t 121) (.t 122)), 2, []⟩, ⟨(some 124), .none, (.fadr 2 (.t 123)), 3, []⟩, ⟨(some 125), .none, (.load 1 false (.t 124)), 4, []⟩, ⟨(some 126), .none, (.mov (.t 18)), 5, []⟩, ⟨(some 127), .none, (.bin .lss (.t 125) (.t 126)), 6, []⟩]) (.cond (.t 127) (.seq (.reg false [⟨(some 2), .none, (.mov (.c (.bool false))), 0, []⟩]) .ret) .skip))) (.reg false [⟨(some 119), .none, (.mov (.t 20)), 0, []⟩, ⟨(some 120), .none, (.bin .add (.t 119) (.c (.int .i64 1))), 1, []⟩, ⟨(some 20), .none, (.mov (.t 120)), 2, []⟩])))))) (.seq (.seq (.reg false [⟨(some 21), .none, (.mov (.c (.int .i64 0))), 0, []⟩]) (.block 2 (.loop (.seq (.seq (.reg false [⟨(some 128), .none, (.mov (.t 21)), 0, []⟩, ⟨(some 129), .none, (.bin .lss (.t 128) (.c (.int .i64 3))), 1, []⟩, ⟨(some 130), .none, (.mov (.t 129)), 2, []⟩, ⟨(some 131), (.some (130, true)), (.mov (.t 14)), 3, []⟩, ⟨(some 132), .none, (.pick (.t 130) (.t 131) (.c (.bool false))), 4, []⟩]) (.cond (.t 132) .skip (.exit 2))) (.seq (.block 3 (.seq (.reg false [⟨(some 136), .none, (.mov (.t 11)), 0, []⟩, ⟨(some 137), .none, (.mov (.t 21)), 1, []⟩, ⟨(some 138), .none, (.fadr 1 (.t 12)), 2, []⟩, ⟨(some 139), .none, (.load 1 false (.t 138)), 3, []⟩, ⟨(some 140), .none, (.call 14 [(.t 136), (.t 137), (.t 139), (.c (.int .i64 0))]), 4, []⟩, ⟨(some 135), .none, (.mov (.t 140)), 5, []⟩, ⟨(some 141), .none, (.ext (.t 135) 0), 6, []⟩, ⟨(some 142), .none, (.ext (.t 135) 1), 7, []⟩, ⟨(some 22), .none, (.newV [(.int .i64 0), (.int .i64 0), (.int .i64 0), (.int .i64 0), (.int .i64 0)]), 8, []⟩, ⟨.none, .none, (.store 5 (.t 22) (.t 141)), 9, []⟩, ⟨(some 23), .none, (.mov (.t 142)), 10, []⟩]) (.seq (.reg false [⟨(some 144), .none, (.mov (.t 13)), 0, []⟩, ⟨(some 145), .none, (.mov (.t 21)), 1, []⟩, ⟨(some 146), .none, (.fadr 1 (.t 12)), 2, []⟩, ⟨(some 147), .none, (.load 1 false (.t 146)), 3, []⟩, ⟨(some 148), .none, (.call 15 [(.t 144), (.t 145), (.t 147), (.c (.int .i64 0))]), 4, []⟩, ⟨(some 143), .none, (.mov (.t 148)), 5, []⟩, ⟨(some 149), .none, (.ext (.t 143) 0), 6, []⟩, ⟨(some 150), .none, (.ext (.t 143) 1), 7, []⟩, ⟨(some 24), .none, (.newV [(.int .i64 0), (.int .i64 0), (.int .i64 0), (.int .i64 0), (.int .i64 0)]), 8, []⟩, ⟨.none, .none, (.store 5 (.t 24) (.t 149)), 9, []⟩, ⟨(some 25), .none, (.mov (.t 150)), 10, []⟩]) (.seq (.reg false [⟨(some 151), .none, (.mov (.t 23)), 0, []⟩, ⟨(some 152), .none, (.mov (.t 151)), 1, []⟩, ⟨(some 153), (.some (152, true)), (.mov (.t 25)), 2, []⟩, ⟨(some 154), (.some (152, true)), (.un .not (.t 153)), 3, []⟩, ⟨(some 155), (.some (152, true)), (.mov (.t 154)), 4, []⟩, ⟨(some 156), (.some (155, false)), (.fadr 2 (.t 24)), 5, []⟩, ⟨(some 157), (.some (155, false)), (.load 1 false (.t 156)), 6, []⟩, ⟨(some 158), (.some (155, false)), (.fadr 2 (.t 22)), 7, []⟩, ⟨(some 159), (.some (155, false)), (.load 1 false (.t 158)), 8, []⟩, ⟨(some 160), (.some (155, false)), (.bin .lss (.t 157) (.t 159)), 9, []⟩, ⟨(some 161), (.some (152, true)), (.pick (.t 155) (.c (.bool true)) (.t 160)), 10, []⟩, ⟨(some 162), .none, (.pick (.t 152) (.t 161) (.c (.bool false))), 11, []⟩, ⟨(some 163), .none, (.mov (.t 162)), 12, []⟩, ⟨(some 164), (.some (163, true)), (.fadr 3 (.t 12)), 13, []⟩, ⟨(some 165), (.some (163, true)), (.load 1 false (.t 164)), 14, []⟩, ⟨(some 166), (.some (163, true)), (.bin .quo (.t 165) (.c (.int .i64 16))), 15, []⟩, ⟨(some 167), (.some (163, true)), (.bin .rem (.t 166) (.c (.int .i64 2))), 16, []⟩, ⟨(some 168), (.some (163, true)), (.bin .eql (.t 167) (.c (.int .i64 0))), 17, []⟩, ⟨(some 169), .none, (.pick (.t 163) (.t 168) (.c (.bool false))), 18, []⟩]) (.cond (.t 169) (.seq (.reg false [⟨(some 2), .none, (.mov (.c (.bool false))), 0, []⟩]) .ret) .skip))))) (.reg false [⟨(some 133), .none, (.mov (.t 21)), 0, []⟩, ⟨(some 134), .none, (.bin .add (.t 133) (.c (.int .i64 1))), 1, []⟩, ⟨(some 21), .none, (.mov (.t 134)), 2, []⟩])))))) (.seq (.reg false [⟨(some 171), .none, (.mov (.t 17)), 0, []⟩, ⟨(some 172), .none, (.mov (.t 4)), 1, []⟩, ⟨(some 173), .none, (.mov (.t 18)), 2, []⟩, ⟨(some 174), .none, (.mov (.t 6)), 3, []⟩, ⟨(some 175), .none, (.call 15 [(.t 171), (.t 172), (.t 173), (.t 174)]), 4, []⟩, ⟨(some 170), .none, (.mov (.t 175)), 5, []⟩, ⟨(some 176), .none, (.ext (.t 170) 0), 6, []⟩, ⟨(some 177), .none, (.ext (.t 170) 1), 7, []⟩, ⟨(some 26), .none, (.newV [(.int .i64 0), (.int .i64 0), (.int .i64 0), (.int .i64 0), (.int .i64 0)]), 8, []⟩, ⟨.none, .none, (.store 5 (.t 26) (.t 176)), 9, []⟩, ⟨(some 27), .none, (.mov (.t 177)), 10, []⟩]) (.seq (.reg false [⟨(some 179), .none, (.mov (.t 19)), 0, []⟩, ⟨(some 180), .none, (.mov (.t 4)), 1, []⟩, ⟨(some 181), .none, (.mov (.t 18)), 2, []⟩, ⟨(some 182), .none, (.mov (.t 6)), 3, []⟩, ⟨(some 183), .none, (.call 15 [(.t 179), (.t 180), (.t 181), (.t 182)]), 4, []⟩, ⟨(some 178), .none, (.mov (.t 183)), 5, []⟩, ⟨(some 184), .none, (.ext (.t 178) 0), 6, []⟩, ⟨(some 185), .none, (.ext (.t 178) 1), 7, []⟩, ⟨(some 28), .none, (.newV [(.int .i64 0), (.int .i64 0), (.int .i64 0), (.int .i64 0), (.int .i64 0)]), 8, []⟩, ⟨.none, .none, (.store 5 (.t 28) (.t 184)), 9, []⟩, ⟨(some 29), .none, (.mov (.t 185)), 10, []⟩]) (.seq (.reg false [⟨(some 186), .none, (.mov (.t 27)), 0, []⟩, ⟨(some 187), .none, (.mov (.t 29)), 1, []⟩, ⟨(some 188), .none, (.beq false (.t 186) (.t 187)), 2, []⟩, ⟨(some 189), .none, (.mov (.t 188)), 3, []⟩, ⟨(some 190), (.some (189, true)), (.load 5 true (.t 26)), 4, []⟩, ⟨(some 191), (.some (189, true)), (.load 5 true (.t 28)), 5, []⟩, ⟨(some 192), (.some (189, true)), (.aeq false [0, 0, 0, 0, 0] (.t 190) (.t 191)), 6, []⟩, ⟨(some 193), .none, (.pick (.t 189) (.t 192) (.c (.bool false))), 7, []⟩, ⟨(some 2), .none, (.mov (.t 193)), 8, []⟩]) .ret))))))))))))))))))), [(.t 2)]⟩
theorem k7 : EE.fns 7 = some c7 := by kernel_rfl
def c14 : CF := ⟨71, (.seq (.reg false [⟨(some 8), .none, (.newV [(.int .i64 0), (.int .i64 0), (.int .i64 0), (.int .i64 0), (.int .i64 0)]), 0, []⟩, ⟨(some 9), .none, (.mov (.c (.bool false))), 1, []⟩]) (.seq (.reg false [⟨(some 14), .none, (.build [(.int .i64 0), (.int .i64 0), (.int .i64 0), (.int .i64 0), (.int .i64 0)] []), 0, []⟩, ⟨(some 10), .none, (.newV [(.int .i64 0), (.int .i64 0), (.int .i64 0), (.int .i64 0), (.int .i64 0)]), 1, []⟩, ⟨.none, .none, (.store 5 (.t 10) (.t 14)), 2, []⟩]) (.seq (.reg false [⟨(some 11), .none, (.mov (.c (.bool false))), 0, []⟩]) (.seq (.seq (.reg false [⟨(some 12), .none, (.mov (.c (.int .i64 0))), 0, []⟩]) (.block 0 (.loop (.seq (.seq (.reg false [⟨(some 15), .none, (.mov (.t 12)), 0, []⟩, ⟨(some 16), .none, (.mov (.t 0)), 1, []⟩, ⟨(some 17), .none, (.lenS (.t 16)), 2, []⟩, ⟨(some 18), .none, (.bin .lss (.t 15) (.t 17)), 3, []⟩, ⟨(some 19), .none, (.mov (.t 18)), 4, []⟩, ⟨(some 20), (.some (19, true)), (.mov (.t 0)), 5, []⟩, ⟨(some 21), (.some (19, true)), (.call 10 [(.t 20)]), 6, []⟩, ⟨(some 22), .none, (.pick (.t 19) (.t 21) (.c (.bool false))), 7, []⟩, ⟨(some 23), .none, (.mov (.t 22)), 8, []⟩, ⟨(some 24), (.some (23, true)), (.mov (.t 3)), 9, []⟩, ⟨(some 25), (.some (23, true)), (.call 44 [(.t 24)]), 10, []⟩, ⟨(some 26), .none, (.pick (.t 23) (.t 25) (.c (.bool false))), 11, []⟩]) (.cond (.t 26) .skip (.exit 0))) (.seq (.block 1 (.seq (.reg false [⟨(some 29), .none, (.mov (.t 0)), 0, []⟩, ⟨(some 30), .none, (.mov (.t 12)), 1, []⟩, ⟨(some 31), .none, (.iadr 5 (.t 29) (.t 30)), 2, []⟩, ⟨(some 32), .none, (.load 5 true (.t 31)), 3, []⟩, ⟨(some 13), .none, (.newV [(.int .i64 0), (.int .i64 0), (.int .i64 0), (.int .i64 0), (.int .i64 0)]), 4, []⟩, ⟨.none, .none, (.store 5 (.t 13) (.t 32)), 5, []⟩]) (.seq (.reg false [⟨(some 33), .none, (.fadr 0 (.t 13)), 0, []⟩, ⟨(some 34), .none, (.load 1 false (.t 33)), 1, []⟩, ⟨(some 35), .none, (.mov (.t 1)), 2, []⟩, ⟨(some 36), .none, (.bin .eql (.t 34) (.t 35)), 3, []⟩, ⟨(some 37), .none, (.mov (.t 36)), 4, []⟩, ⟨(some 38), (.some (37, true)), (.mov (.t 2)), 5, []⟩, ⟨(some 39), (.some (37, true)), (.fadr 1 (.t 13)), 6, []⟩, ⟨(some 40), (.some (37, true)), (.load 1 false (.t 39)), 7, []⟩, ⟨(some 41), (.some (37, true)), (.fadr 2 (.t 13)), 8, []⟩, ⟨(some 42), (.some (37, true)), (.load 1 false (.t 41)), 9, []⟩, ⟨(some 43), (.some (37, true)), (.call 45 [(.t 38), (.t 40), (.t 42)]), 10, []⟩, ⟨(some 44), .none, (.pick (.t 37) (.t 43) (.c (.bool false))), 11, []⟩, ⟨(some 45), .none, (.mov (.t 44)), 12, []⟩, ⟨(some 46), (.some (45, true)), (.fadr 3 (.t 13)), 13, []⟩, ⟨(some 47), (.some (45, true)), (.load 1 false (.t 46)), 14, []⟩, ⟨(some 48), (.some (45, true)), (.call 46 [(.t 47), (.c (.int .i64 16))]), 15, []⟩, ⟨(some 49), (.some (45, true)), (.un .not (.t 48)), 16, []⟩, ⟨(some 50), .none, (.pick (.t 45) (.t 49) (.c (.bool false))), 17, []⟩, ⟨(some 51), .none, (.mov (.t 50)), 18, []⟩, ⟨(some 52), (.some (51, true)), (.mov (.t 3)), 19, []⟩, ⟨(some 53), (.some (51, true)), (.fadr 3 (.t 13)), 20, []⟩, ⟨(some 54), (.some (51, true)), (.load 1 false (.t 53)), 21, []⟩, ⟨(some 55), (.some (51, true)), (.call 47 [(.t 52), (.t 54)]), 22, []⟩, ⟨(some 56), .none, (.pick (.t 51) (.t 55) (.c (.bool false))), 23, []⟩, ⟨(some 57), .none, (.mov (.t 56)), 24, []⟩, ⟨(some 58), (.some (57, true)), (.mov (.t 11)), 25, []⟩, ⟨(some 59), (.some (57, true)), (.un .not (.t 58)), 26, []⟩, ⟨(some 60), (.some (57, true)), (.mov (.t 59)), 27, []⟩, ⟨(some 61), (.some (60, false)), (.fadr 2 (.t 13)), 28, []⟩, ⟨(some 62), (.some (60, false)), (.load 1 false (.t 61)), 29, []⟩, ⟨(some 63), (.some (60, false)), (.fadr 2 (.t 10)), 30, []⟩, ⟨(some 64), (.some (60, false)), (.load 1 false (.t 63)), 31, []⟩, ⟨(some 65), (.some (60, false)), (.bin .gtr (.t 62) (.t 64)), 32, []⟩, ⟨(some 66), (.some (57, true)), (.pick (.t 60) (.c (.bool true)) (.t 65)), 33, []⟩, ⟨(some 67), .none, (.pick (.t 57) (.t 66) (.c (.bool false))), 34, []⟩]) (.cond (.t 67) (.seq (.reg false [⟨(some 68), .none, (.load 5 true (.t 13)), 0, []⟩, ⟨.none, .none, (.store 5 (.t 10) (.t 68)), 1, []⟩]) (.reg false [⟨(some 11), .none, (.mov (.c (.bool true))), 0, []⟩])) .skip)))) (.reg false [⟨(some 27), .none, (.mov (.t 12)), 0, []⟩, ⟨(some 28), .none, (.bin .add (.t 27) (.c (.int .i64 1))), 1, []⟩, ⟨(some 12), .none, (.mov (.t 28)), 2, []⟩])))))) (.seq (.reg false [⟨(some 69), .none, (.load 5 true (.t 10)), 0, []⟩, ⟨(some 70), .none, (.mov (.t 11)), 1, []⟩, ⟨.none, .none, (.store 5 (.t 8) (.t 69)), 2, []⟩, ⟨(some 9), .none, (.mov (.t 70)), 3, []⟩]) .ret))))), [(.cell 8 5 true), (.t 9)]⟩
theorem k14 : EE.fns 14 = some c14 := by kernel_rfl
def c15 : CF := ⟨68, (.seq (.reg false [⟨(some 8), .none, (.newV [(.int .i64 0), (.int .i64 0), (.int .i64 0), (.int .i64 0), (.int .i64 0)]), 0, []⟩, ⟨(some 9), .none, (.mov (.c (.bool false))), 1, []⟩]) (.seq (.reg false [⟨(some 15), .none, (.build [(.int .i64 0), (.int .i64 0), (.int .i64 0), (.int .i64 0), (.int .i64 0)] []), 0, []⟩, ⟨(some 10), .none, (.newV [(.int .i64 0), (.int .i64 0), (.int .i64 0), (.int .i64 0), (.int .i64 0)]), 1, []⟩, ⟨.none, .none, (.store 5 (.t 10) (.t 15)), 2, []⟩, ⟨(some 11), .none, (.mov (.c (.bool false))), 3, []⟩]) (.seq (.seq (.reg false [⟨(some 16), .none, (.mov (.t 0)), 0, []⟩, ⟨(some 17), .none, (.lenS (.t 16)), 1, []⟩, ⟨(some 18), .none, (.mov (.c (.int .i64 0))), 2, []⟩]) (.block 0 (.loop (.seq (.reg false [⟨(some 19), .none, (.bin .lss (.t 18) (.t 17)), 0, []⟩]) (.seq (.cond (.t 19) .skip (.exit 0)) (.seq (.block 1 (.seq (.reg false [⟨(some 20), .none, (.iadr 5 (.t 16) (.t 18)), 0, []⟩, ⟨(some 21), .none, (.load 5 true (.t 20)), 1, []⟩, ⟨(some 13), .none, (.newV [(.int .i64 0), (.int .i64 0), (.int .i64 0), (.int .i64 0), (.int .i64 0)]), 2, []⟩, ⟨.none, .none, (.store 5 (.t 13) (.t 21)), 3, []⟩]) (.seq (.reg false [⟨(some 22), .none, (.fadr 0 (.t 13)), 0, []⟩, ⟨(some 23), .none, (.load 1 false (.t 22)), 1, []⟩, ⟨(some 24), .none, (.mov (.t 1)), 2, []⟩, ⟨(some 25), .none, (.bin .eql (.t 23) (.t 24)), 3, []⟩, ⟨(some 26), .none, (.mov (.t 25)), 4, []⟩, ⟨(some 27), (.some (26, true)), (.mov (.t 2)), 5, []⟩, ⟨(some 28), (.some (26, true)), (.fadr 1 (.t 13)), 6, []⟩, ⟨(some 29), (.some (26, true)), (.load 1 false (.t 28)), 7, []⟩, ⟨(some 30), (.some (26, true)), (.fadr 2 (.t 13)), 8, []⟩, ⟨(some 31), (.some (26, true)), (.load 1 false (.t 30)), 9, []⟩, ⟨(some 32), (.some (26, true)), (.call 48 [(.t 27), (.t 29), (.t 31)]), 10, []⟩, ⟨(some 33), .none, (.pick (.t 26) (.t 32) (.c (.bool false))), 11, []⟩, ⟨(some 34), .none, (.mov (.t 33)), 12, []⟩, ⟨(some 35), (.some (34, true)), (.fadr 3 (.t 13)), 13, []⟩, ⟨(some 36), (.some (34, true)), (.load 1 false (.t 35)), 14, []⟩, ⟨(some 37), (.some (34, true)), (.bin .and (.t 36) (.c (.int .i64 16))), 15, []⟩, ⟨(some 38), (.some (34, true)), (.bin .eql (.t 37) (.c (.int .i64 0))), 16, []⟩, ⟨(some 39), .none, (.pick (.t 34) (.t 38) (.c (.bool false))), 17, []⟩, ⟨(some 40), .none, (.mov (.t 39)), 18, []⟩, ⟨(some 41), (.some (40, true)), (.fadr 3 (.t 13)), 19, []⟩, ⟨(some 42), (.some (40, true)), (.load 1 false (.t 41)), 20, []⟩, ⟨(some 43), (.some (40, true)), (.mov (.t 3)), 21, []⟩, ⟨(some 44), (.some (40, true)), (.bin .and (.t 42) (.t 43)), 22, []⟩, ⟨(some 45), (.some (40, true)), (.mov (.t 3)), 23, []⟩, ⟨(some 46), (.some (40, true)), (.bin .eql (.t 44) (.t 45)), 24, []⟩, ⟨(some 47), .none, (.pick (.t 40) (.t 46) (.c (.bool false))), 25, []⟩, ⟨(some 14), .none, (.mov (.t 47)), 26, []⟩]) (.seq (.reg false [⟨(some 48), .none, (.mov (.t 14)), 0, []⟩, ⟨(some 49), .none, (.mov (.t 48)), 1, []⟩, ⟨(some 50), (.some (49, true)), (.mov (.t 0)), 2, []⟩, ⟨(some 51), (.some (49, true)), (.call 12 [(.t 50)]), 3, []⟩, ⟨(some 52), .none, (.pick (.t 49) (.t 51) (.c (.bool false))), 4, []⟩, ⟨(some 53), .none, (.mov (.t 52)), 5, []⟩, ⟨(some 54), (.some (53, true)), (.mov (.t 11)), 6, []⟩, ⟨(some 55), (.some (53, true)), (.un .not (.t 54)), 7, []⟩, ⟨(some 56), (.some (53, true)), (.mov (.t 55)), 8, []⟩, ⟨(some 57), (.some (56, false)), (.fadr 2 (.t 13)), 9, []⟩, ⟨(some 58), (.some (56, false)), (.load 1 false (.t 57)), 10, []⟩, ⟨(some 59), (.some (56, false)), (.fadr 2 (.t 10)), 11, []⟩, ⟨(some 60), (.some (56, false)), (.load 1 false (.t 59)), 12, []⟩, ⟨(some 61), (.some (56, false)), (.bin .gtr (.t 58) (.t 60)), 13, []⟩, ⟨(some 62), (.some (53, true)), (.pick (.t 56) (.c (.bool true)) (.t 61)), 14, []⟩, ⟨(some 63), .none, (.pick (.t 53) (.t 62) (.c (.bool false))), 15, []⟩]) (.cond (.t 63) (.reg false [⟨(some 64), .none, (.load 5 true (.t 13)), 0, []⟩, ⟨.none, .none, (.store 5 (.t 10) (.t 64)), 1, []⟩, ⟨(some 11), .none, (.mov (.c (.bool true))), 2, []⟩]) .skip))))) (.reg false [⟨(some 65), .none, (.bin .add (.t 18) (.c (.int .i64 1))), 0, []⟩, ⟨(some 18), .none, (.mov (.t 65)), 1, []⟩]))))))) (.seq (.reg false [⟨(some 66), .none, (.load 5 true (.t 10)), 0, []⟩, ⟨(some 67), .none, (.mov (.t 11)), 1, []⟩, ⟨.none, .none, (.store 5 (.t 8) (.t 66)), 2, []⟩, ⟨(some 9), .none, (.mov (.t 67)), 3, []⟩]) .ret)))), [(.cell 8 5 true), (.t 9)]⟩
theorem k15 : EE.fns 15 = some c15 := by kernel_rfl
def c23 : CF := ⟨55, (.seq (.reg false [⟨(some 3), .none, (.boxV (.t 1)), 0, []⟩, ⟨(some 4), .none, (.mov (.c (.slice .none 0 0))), 1, []⟩, ⟨(some 5), .none, (.mov (.c (.bool false))), 2, []⟩]) (.seq (.seq (.reg false [⟨(some 9), .none, (.mov (.t 0)), 0, []⟩, ⟨(some 10), .none, (.call 12 [(.t 9)]), 1, []⟩, ⟨(some 11), .none, (.un .not (.t 10)), 2, []⟩]) (.cond (.t 11) (.seq (.reg false [⟨(some 4), .none, (.mov (.c (.slice .none 0 0))), 0, []⟩, ⟨(some 5), .none, (.mov (.c (.bool false))), 1, []⟩]) .ret) .skip)) (.seq (.reg false [⟨(some 12), .none, (.mkO 0 5 [(.int .i64 0), (.int .i64 0), (.int .i64 0), (.int .i64 0), (.int .i64 0)] []), 0, []⟩, ⟨(some 6), .none, (.mov (.t 12)), 1, []⟩]) (.seq (.seq (.reg false [⟨(some 13), .none, (.mov (.t 0)), 0, []⟩, ⟨(some 14), .none, (.lenS (.t 13)), 1, []⟩, ⟨(some 15), .none, (.mov (.c (.int .i64 0))), 2, []⟩]) (.block 0 (.loop (.seq (.reg false [⟨(some 16), .none, (.bin .lss (.t 15) (.t 14)), 0, []⟩]) (.seq (.cond (.t 16) .skip (.exit 0)) (.seq (.block 1 (.seq (.reg false [⟨(some 17), .none, (.iadr 5 (.t 13) (.t 15)), 0, []⟩, ⟨(some 18), .none, (.load 5 true (.t 17)), 1, []⟩, ⟨(some 8), .none, (.newV [(.int .i64 0), (.int .i64 0), (.int .i64 0), (.int .i64 0), (.int .i64 0)]), 2, []⟩, ⟨.none, .none, (.store 5 (.t 8) (.t 18)), 3, []⟩]) (.seq (.reg false [⟨(some 19), .none, (.fadr 0 (.t 8)), 0, []⟩, ⟨(some 20), .none, (.load 1 false (.t 19)), 1, []⟩, ⟨(some 21), .none, (.fadr 0 (.t 3)), 2, []⟩, ⟨(some 22), .none, (.load 1 false (.t 21)), 3, []⟩, ⟨(some 23), .none, (.bin .neq (.t 20) (.t 22)), 4, []⟩, ⟨(some 24), .none, (.mov (.t 23)), 5, []⟩, ⟨(some 25), (.some (24, false)), (.fadr 2 (.t 8)), 6, []⟩, ⟨(some 26), (.some (24, false)), (.load 1 false (.t 25)), 7, []⟩, ⟨(some 27), (.some (24, false)), (.fadr 2 (.t 3)), 8, []⟩, ⟨(some 28), (.some (24, false)), (.load 1 false (.t 27)), 9, []⟩, ⟨(some 29), (.some (24, false)), (.bin .gtr (.t 26) (.t 28)), 10, []⟩, ⟨(some 30), .none, (.pick (.t 24) (.c (.bool true)) (.t 29)), 11, []⟩, ⟨(some 31), .none, (.mov (.t 30)), 12, []⟩, ⟨(some 32), (.some (31, false)), (.fadr 3 (.t 8)), 13, []⟩, ⟨(some 33), (.some (31, false)), (.load 1 false (.t 32)), 14, []⟩, ⟨(some 34), (.some (31, false)), (.bin .and (.t 33) (.c (.int .i64 15))), 15, []⟩, ⟨(some 35), (.some (31, false)), (.fadr 3 (.t 3)), 16, []⟩, ⟨(some 36), (.some (31, false)), (.load 1 false (.t 35)), 17, []⟩, ⟨(some 37), (.some (31, false)), (.bin .andNot (.t 34) (.t 36)), 18, []⟩, ⟨(some 38), (.some (31, false)), (.bin .neq (.t 37) (.c (.int .i64 0))), 19, []⟩, ⟨(some 39), .none, (.pick (.t 31) (.c (.bool true)) (.t 38)), 20, []⟩]) (.cond (.t 39) (.reg false [⟨(some 40), .none, (.mov (.t 6)), 0, []⟩, ⟨(some 41), .none, (.load 5 true (.t 8)), 1, []⟩, ⟨(some 42), .none, (.mkV 1 5 [(.int .i64 0), (.int .i64 0), (.int .i64 0), (.int .i64 0), (.int .i64 0)] [(0, (.t 41))]), 2, []⟩, ⟨(some 43), .none, (.app 5 40 (.t 40) (.t 42)), 3, []⟩, ⟨(some 6), .none, (.mov (.t 43)), 4, []⟩]) .skip)))) (.reg false [⟨(some 44), .none, (.bin .add (.t 15) (.c (.int .i64 1))), 0, []⟩, ⟨(some 15), .none, (.mov (.t 44)), 1, []⟩]))))))) (.seq (.reg false [⟨(some 45), .none, (.mov (.t 6)), 0, []⟩, ⟨(some 46), .none, (.load 5 true (.t 3)), 1, []⟩, ⟨(some 47), .none, (.mkV 1 5 [(.int .i64 0), (.int .i64 0), (.int .i64 0), (.int .i64 0), (.int .i64 0)] [(0, (.t 46))]), 2, []⟩, ⟨(some 48), .none, (.app 5 40 (.t 45) (.t 47)), 3, []⟩, ⟨(some 6), .none, (.mov (.t 48)), 4, []⟩]) (.seq (.seq (.reg false [⟨(some 49), .none, (.mov (.t 6)), 0, []⟩, ⟨(some 50), .none, (.call 12 [(.t 49)]), 1, []⟩, ⟨(some 51), .none, (.un .not (.t 50)), 2, []⟩]) (.cond (.t 51) (.seq (.reg false [⟨(some 52), .none, (.mov (.t 0)), 0, []⟩, ⟨(some 53), .none, (.app 5 40 (.c (.slice .none 0 0)) (.t 52)), 1, []⟩, ⟨(some 4), .none, (.mov (.t 53)), 2, []⟩, ⟨(some 5), .none, (.mov (.c (.bool false))), 3, []⟩]) .ret) .skip)) (.seq (.reg false [⟨(some 54), .none, (.mov (.t 6)), 0, []⟩, ⟨(some 4), .none, (.mov (.t 54)), 1, []⟩, ⟨(some 5), .none, (.mov (.c (.bool true))), 2, []⟩]) .ret))))))), [(.t 4), (.t 5)]⟩
theorem k23 : EE.fns 23 = some c23 := by kernel_rfl
def c24 : CF := ⟨6, (.seq (.reg false [⟨(some 2), .none, (.mov (.c (.bool false))), 0, []⟩]) (.seq (.reg false [⟨(some 3), .none, (.mov (.t 0)), 0, []⟩, ⟨(some 4), .none, (.lenS (.t 3)), 1, []⟩, ⟨(some 5), .none, (.bin .gtr (.t 4) (.c (.int .i64 1048576))), 2, []⟩, ⟨(some 2), .none, (.mov (.t 5)), 3, []⟩]) .ret)), [(.t 2)]⟩
theorem k24 : EE.fns 24 = some c24 := by kernel_rfl
def c25 : CF := ⟨24, (.seq (.reg false [⟨(some 2), .none, (.mov (.c (.slice .none 0 0))), 0, []⟩, ⟨(some 3), .none, (.mov (.c (.int .i64 0))), 1, []⟩, ⟨(some 4), .none, (.mov (.c (.int .i64 0))), 2, []⟩, ⟨(some 5), .none, (.mov (.c (.int .i64 0))), 3, []⟩]) (.seq (.reg false [⟨(some 10), .none, (.mov (.t 0)), 0, []⟩, ⟨(some 11), .none, (.call 50 [(.t 10)]), 1, []⟩, ⟨(some 6), .none, (.mov (.t 11)), 2, []⟩]) (.seq (.reg false [⟨(some 12), .none, (.mov (.t 6)), 0, []⟩, ⟨(some 13), .none, (.call 51 [(.t 12), (.c (.int .i64 3))]), 1, []⟩, ⟨(some 7), .none, (.mov (.t 13)), 2, []⟩]) (.seq (.reg false [⟨(some 14), .none, (.mov (.t 6)), 0, []⟩, ⟨(some 15), .none, (.call 51 [(.t 14), (.c (.int .i64 50))]), 1, []⟩, ⟨(some 8), .none, (.mov (.t 15)), 2, []⟩]) (.seq (.reg false [⟨(some 16), .none, (.mov (.t 6)), 0, []⟩, ⟨(some 17), .none, (.mkO 6 1 [(.int .i64 0)] [(0, (.c (.int .i64 0))), (1, (.c (.int .i64 0))), (2, (.c (.int .i64 1))), (3, (.c (.int .i64 2))), (4, (.c (.int .i64 4))), (5, (.c (.int .i64 256)))]), 1, []⟩, ⟨(some 18), .none, (.call 52 [(.t 16), (.t 17)]), 2, []⟩, ⟨(some 9), .none, (.mov (.t 18)), 3, []⟩]) (.seq (.reg false [⟨(some 19), .none, (.mov (.t 6)), 0, []⟩, ⟨(some 20), .none, (.call 53 [(.t 19)]), 1, []⟩, ⟨(some 21), .none, (.mov (.t 7)), 2, []⟩, ⟨(some 22), .none, (.mov (.t 8)), 3, []⟩, ⟨(some 23), .none, (.mov (.t 9)), 4, []⟩, ⟨(some 2), .none, (.mov (.t 20)), 5, []⟩, ⟨(some 3), .none, (.mov (.t 21)), 6, []⟩, ⟨(some 4), .none, (.mov (.t 22)), 7, []⟩, ⟨(some 5), .none, (.mov (.t 23)), 8, []⟩]) .ret)))))), [(.t 2), (.t 3), (.t 4), (.t 5)]⟩
theorem k25 : EE.fns 25 = some c25 := by kernel_rfl
def c26 : CF := ⟨13, (.seq (.reg false [⟨(some 2), .none, (.mov (.c (.slice .none 0 0))), 0, []⟩, ⟨(some 3), .none, (.newV [(.int .i64 0), (.int .i64 0), (.int .i64 0), (.int .i64 0), (.int .i64 0)]), 1, []⟩]) (.seq (.reg false [⟨(some 6), .none, (.mov (.t 0)), 0, []⟩, ⟨(some 7), .none, (.call 50 [(.t 6)]), 1, []⟩, ⟨(some 4), .none, (.mov (.t 7)), 2, []⟩]) (.seq (.reg false [⟨(some 8), .none, (.mov (.t 4)), 0, []⟩, ⟨(some 9), .none, (.call 54 [(.t 8)]), 1, []⟩, ⟨(some 5), .none, (.newV [(.int .i64 0), (.int .i64 0), (.int .i64 0), (.int .i64 0), (.int .i64 0)]), 2, []⟩, ⟨.none, .none, (.store 5 (.t 5) (.t 9)), 3, []⟩]) (.seq (.reg true [⟨(some 10), .none, (.mov (.t 4)), 0, []⟩, ⟨(some 11), .none, (.call 53 [(.t 10)]), 1, [0]⟩, ⟨(some 12), .none, (.load 5 true (.t 5)), 2, []⟩, ⟨(some 2), .none, (.mov (.t 11)), 3, [1, 0]⟩, ⟨.none, .none, (.store 5 (.t 3) (.t 12)), 4, [2, 3, 1, 0]⟩]) .ret)))), [(.t 2), (.cell 3 5 true)]⟩
theorem k26 : EE.fns 26 = some c26 := by kernel_rfl
def c27 : CF := ⟨13, (.seq (.reg false [⟨(some 2), .none, (.mov (.c (.slice .none 0 0))), 0, []⟩, ⟨(some 3), .none, (.mov (.c (.int .i64 0))), 1, []⟩]) (.seq (.reg false [⟨(some 6), .none, (.mov (.t 0)), 0, []⟩, ⟨(some 7), .none, (.call 50 [(.t 6)]), 1, []⟩, ⟨(some 4), .none, (.mov (.t 7)), 2, []⟩]) (.seq (.reg false [⟨(some 8), .none, (.mov (.t 4)), 0, []⟩, ⟨(some 9), .none, (.call 51 [(.t 8), (.c (.int .i64 50))]), 1, []⟩, ⟨(some 5), .none, (.mov (.t 9)), 2, []⟩]) (.seq (.reg false [⟨(some 10), .none, (.mov (.t 4)), 0, []⟩, ⟨(some 11), .none, (.call 53 [(.t 10)]), 1, []⟩, ⟨(some 12), .none, (.mov (.t 5)), 2, []⟩, ⟨(some 2), .none, (.mov (.t 11)), 3, []⟩, ⟨(some 3), .none, (.mov (.t 12)), 4, []⟩]) .ret)))), [(.t 2), (.t 3)]⟩
theorem k27 : EE.fns 27 = some c27 := by kernel_rfl
def c45 : CF := ⟨15, (.seq (.reg false [⟨(some 6), .none, (.mov (.c (.bool false))), 0, []⟩]) (.seq (.reg false [⟨(some 7), .none, (.mov (.t 0)), 0, []⟩, ⟨(some 8), .none, (.mov (.t 1)), 1, []⟩, ⟨(some 9), .none, (.bin .geq (.t 7) (.t 8)), 2, []⟩, ⟨(some 10), .none, (.mov (.t 9)), 3, []⟩, ⟨(some 11), (.some (10, true)), (.mov (.t 0)), 4, []⟩, ⟨(some 12), (.some (10, true)), (.mov (.t 2)), 5, []⟩, ⟨(some 13), (.some (10, true)), (.bin .leq (.t 11) (.t 12)), 6, []⟩, ⟨(some 14), .none, (.pick (.t 10) (.t 13) (.c (.bool false))), 7, []⟩, ⟨(some 6), .none, (.mov (.t 14)), 8, []⟩]) .ret)), [(.t 6)]⟩
theorem k45 : EE.fns 45 = some c45 := by kernel_rfl
def c48 : CF := ⟨15, (.seq (.reg false [⟨(some 6), .none, (.mov (.c (.bool false))), 0, []⟩]) (.seq (.reg false [⟨(some 7), .none, (.mov (.t 0)), 0, []⟩, ⟨(some 8), .none, (.mov (.t 1)), 1, []⟩, ⟨(some 9), .none, (.bin .geq (.t 7) (.t 8)), 2, []⟩, ⟨(some 10), .none, (.mov (.t 9)), 3, []⟩, ⟨(some 11), (.some (10, true)), (.mov (.t 0)), 4, []⟩, ⟨(some 12), (.some (10, true)), (.mov (.t 2)), 5, []⟩, ⟨(some 13), (.some (10, true)), (.bin .leq (.t 11) (.t 12)), 6, []⟩, ⟨(some 14), .none, (.pick (.t 10) (.t 13) (.c (.bool false))), 7, []⟩, ⟨(some 6), .none, (.mov (.t 14)), 8, []⟩]) .ret)), [(.t 6)]⟩
theorem k48 : EE.fns 48 = some c48 := by kernel_rfl
def c50 : CF := ⟨32, (.seq (.reg false [⟨(some 2), .none, (.mov (.c (.pointer .none))), 0, []⟩]) (.seq (.reg false [⟨(some 5), .none, (.mov (.t 0)), 0, []⟩, ⟨(some 6), .none, (.lenS (.t 5)), 1, []⟩, ⟨(some 7), .none, (.bin .add (.c (.int .i64 10101)) (.t 6)), 2, []⟩, ⟨(some 3), .none, (.mov (.t 7)), 3, []⟩]) (.seq (.seq (.reg false [⟨(some 4), .none, (.mov (.c (.int .i64 0))), 0, []⟩]) (.block 0 (.loop (.seq (.seq (.reg false [⟨(some 8), .none, (.mov (.t 4)), 0, []⟩, ⟨(some 9), .none, (.mov (.t 0)), 1, []⟩, ⟨(some 10), .none, (.lenS (.t 9)), 2, []⟩, ⟨(some 11), .none, (.bin .lss (.t 8) (.t 10)), 3, []⟩, ⟨(some 12), .none, (.mov (.t 11)), 4, []⟩, ⟨(some 13), (.some (12, true)), (.mov (.t 4)), 5, []⟩, ⟨(some 14), (.some (12, true)), (.bin .lss (.t 13) (.c (.int .i64 4000))), 6, []⟩, ⟨(some 15), .none, (.pick (.t 12) (.t 14) (.c (.bool false))), 7, []⟩]) (.cond (.t 15) .skip (.exit 0))) (.seq (.block 1 (.reg false [⟨(some 18), .none, (.mov (.t 3)), 0, []⟩, ⟨(some 19), .none, (.bin .mul (.t 18) (.c (.int .i64 131))), 1, []⟩, ⟨(some 20), .none, (.mov (.t 0)), 2, []⟩, ⟨(some 21), .none, (.mov (.t 4)), 3, []⟩, ⟨(some 22), .none, (.iadr 1 (.t 20) (.t 21)), 4, []⟩, ⟨(some 23), .none, (.load 1 false (.t 22)), 5, []⟩, ⟨(some 24), .none, (.toInt .i64 (.t 23)), 6, []⟩, ⟨(some 25), .none, (.bin .add (.t 19) (.t 24)), 7, []⟩, ⟨(some 26), .none, (.bin .add (.t 25) (.c (.int .i64 7))), 8, []⟩, ⟨(some 27), .none, (.bin .and (.t 26) (.c (.int .i64 1073741823))), 9, []⟩, ⟨(some 3), .none, (.mov (.t 27)), 10, []⟩])) (.reg false [⟨(some 16), .none, (.mov (.t 4)), 0, []⟩, ⟨(some 17), .none, (.bin .add (.t 16) (.c (.int .i64 1))), 1, []⟩, ⟨(some 4), .none, (.mov (.t 17)), 2, []⟩])))))) (.seq (.reg false [⟨(some 28), .none, (.mov (.t 0)), 0, []⟩, ⟨(some 29), .none, (.mov (.t 3)), 1, []⟩, ⟨(some 30), .none, (.build [(.slice .none 0 0), (.int .i64 0), (.int .i64 0)] [(0, (1, (.t 28))), (2, (1, (.t 29)))]), 2, []⟩, ⟨(some 31), .none, (.boxO (.t 30)), 3, []⟩, ⟨(some 2), .none, (.mov (.t 31)), 4, []⟩]) .ret)))), [(.t 2)]⟩
theorem k50 : EE.fns 50 = some c50 := by kernel_rfl
def c51 : CF := ⟨37, (.seq (.reg false [⟨(some 4), .none, (.mov (.c (.int .i64 0))), 0, []⟩]) (.seq (.seq (.reg false [⟨(some 9), .none, (.mov (.t 1)), 0, []⟩, ⟨(some 10), .none, (.bin .leq (.t 9) (.c (.int .i64 0))), 1, []⟩]) (.cond (.t 10) (.seq (.reg false [⟨(some 4), .none, (.mov (.c (.int .i64 0))), 0, []⟩]) .ret) .skip)) (.seq (.seq (.reg false [⟨(some 11), .none, (.mov (.t 1)), 0, []⟩, ⟨(some 12), .none, (.bin .leq (.t 11) (.c (.int .i64 256))), 1, []⟩]) (.cond (.t 12) (.seq (.reg false [⟨(some 13), .none, (.mov (.t 0)), 0, []⟩, ⟨(some 14), .none, (.call 77 [(.t 13)]), 1, []⟩, ⟨(some 15), .none, (.mov (.t 1)), 2, []⟩, ⟨(some 16), .none, (.bin .rem (.t 14) (.t 15)), 3, []⟩, ⟨(some 4), .none, (.mov (.t 16)), 4, []⟩]) .ret) .skip)) (.seq (.reg false [⟨(some 17), .none, (.mov (.t 0)), 0, []⟩, ⟨(some 18), .none, (.call 77 [(.t 17)]), 1, []⟩, ⟨(some 5), .none, (.mov (.t 18)), 2, []⟩]) (.seq (.reg false [⟨(some 19), .none, (.mov (.t 0)), 0, []⟩, ⟨(some 20), .none, (.call 77 [(.t 19)]), 1, []⟩, ⟨(some 6), .none, (.mov (.t 20)), 2, []⟩]) (.seq (.reg false [⟨(some 21), .none, (.mov (.t 0)), 0, []⟩, ⟨(some 22), .none, (.call 77 [(.t 21)]), 1, []⟩, ⟨(some 7), .none, (.mov (.t 22)), 2, []⟩]) (.seq (.reg false [⟨(some 23), .none, (.mov (.t 0)), 0, []⟩, ⟨(some 24), .none, (.call 77 [(.t 23)]), 1, []⟩, ⟨(some 8), .none, (.mov (.t 24)), 2, []⟩]) (.seq (.reg false [⟨(some 25), .none, (.mov (.t 5)), 0, []⟩, ⟨(some 26), .none, (.bin .mul (.t 25) (.c (.int .i64 16777216))), 1, []⟩, ⟨(some 27), .none, (.mov (.t 6)), 2, []⟩, ⟨(some 28), .none, (.bin .mul (.t 27) (.c (.int .i64 65536))), 3, []⟩, ⟨(some 29), .none, (.bin .add (.t 26) (.t 28)), 4, []⟩, ⟨(some 30), .none, (.mov (.t 7)), 5, []⟩, ⟨(some 31), .none, (.bin .mul (.t 30) (.c (.int .i64 256))), 6, []⟩, ⟨(some 32), .none, (.bin .add (.t 29) (.t 31)), 7, []⟩, ⟨(some 33), .none, (.mov (.t 8)), 8, []⟩, ⟨(some 34), .none, (.bin .add (.t 32) (.t 33)), 9, []⟩, ⟨(some 35), .none, (.mov (.t 1)), 10, []⟩, ⟨(some 36), .none, (.bin .rem (.t 34) (.t 35)), 11, []⟩, ⟨(some 4), .none, (.mov (.t 36)), 12, []⟩]) .ret)))))))), [(.t 4)]⟩
theorem k51 : EE.fns 51 = some c51 := by kernel_rfl
def c52 : CF := ⟨12, (.seq (.reg false [⟨(some 4), .none, (.mov (.c (.int .i64 0))), 0, []⟩]) (.seq (.reg false [⟨(some 5), .none, (.mov (.t 1)), 0, []⟩, ⟨(some 6), .none, (.mov (.t 0)), 1, []⟩, ⟨(some 7), .none, (.mov (.t 1)), 2, []⟩, ⟨(some 8), .none, (.lenS (.t 7)), 3, []⟩, ⟨(some 9), .none, (.call 51 [(.t 6), (.t 8)]), 4, []⟩, ⟨(some 10), .none, (.iadr 1 (.t 5) (.t 9)), 5, []⟩, ⟨(some 11), .none, (.load 1 false (.t 10)), 6, []⟩, ⟨(some 4), .none, (.mov (.t 11)), 7, []⟩]) .ret)), [(.t 4)]⟩
theorem k52 : EE.fns 52 = some c52 := by kernel_rfl
def c58 : CF := ⟨9, (.seq (.reg false [⟨(some 4), .none, (.mov (.c (.bool false))), 0, []⟩]) (.seq (.reg false [⟨(some 5), .none, (.mov (.t 0)), 0, []⟩, ⟨(some 6), .none, (.mov (.t 1)), 1, []⟩, ⟨(some 7), .none, (.call 51 [(.t 5), (.t 6)]), 2, []⟩, ⟨(some 8), .none, (.bin .eql (.t 7) (.c (.int .i64 0))), 3, []⟩, ⟨(some 4), .none, (.mov (.t 8)), 4, []⟩]) .ret)), [(.t 4)]⟩
theorem k58 : EE.fns 58 = some c58 := by kernel_rfl
def c77 : CF := ⟨58, (.seq (.reg false [⟨(some 2), .none, (.mov (.c (.int .i64 0))), 0, []⟩]) (.seq (.reg false [⟨(some 4), .none, (.mov (.t 0)), 0, []⟩, ⟨(some 5), .none, (.mov (.t 0)), 1, []⟩, ⟨(some 6), .none, (.nilc (.t 5)), 2, []⟩, ⟨(some 7), .none, (.fadr 2 (.t 6)), 3, []⟩, ⟨(some 8), .none, (.load 1 false (.t 7)), 4, []⟩, ⟨(some 9), .none, (.bin .mul (.t 8) (.c (.int .i64 6364136223846793005))), 5, []⟩, ⟨(some 10), .none, (.bin .add (.t 9) (.c (.int .i64 1442695040888963407))), 6, []⟩, ⟨(some 11), .none, (.nilc (.t 4)), 7, []⟩, ⟨(some 12), .none, (.fadr 2 (.t 11)), 8, []⟩, ⟨.none, .none, (.store 1 (.t 12) (.t 10)), 9, []⟩]) (.seq (.reg true [⟨(some 13), .none, (.mov (.t 0)), 0, []⟩, ⟨(some 14), .none, (.nilc (.t 13)), 1, [0]⟩, ⟨(some 15), .none, (.fadr 2 (.t 14)), 2, [1, 0]⟩, ⟨(some 16), .none, (.load 1 false (.t 15)), 3, [2, 1, 0]⟩, ⟨(some 17), .none, (.bin .shr (.t 16) (.c (.int .u64 33))), 4, [3, 2, 1, 0]⟩, ⟨(some 18), .none, (.mov (.t 0)), 5, []⟩, ⟨(some 19), .none, (.nilc (.t 18)), 6, [5]⟩, ⟨(some 20), .none, (.fadr 2 (.t 19)), 7, [6, 5]⟩, ⟨(some 21), .none, (.load 1 false (.t 20)), 8, [7, 6, 5]⟩, ⟨(some 22), .none, (.bin .shr (.t 21) (.c (.int .u64 45))), 9, [8, 7, 6, 5]⟩, ⟨(some 23), .none, (.bin .xor (.t 17) (.t 22)), 10, [4, 3, 2, 1, 0, 9, 8, 7, 6, 5]⟩, ⟨(some 24), .none, (.bin .and (.t 23) (.c (.int .i64 255))), 11, [10, 4, 3, 2, 1, 0, 9, 8, 7, 6, 5]⟩, ⟨(some 3), .none, (.mov (.t 24)), 12, [11, 10, 4, 3, 2, 1, 0, 9, 8, 7, 6, 5]⟩]) (.seq (.seq (.reg true [⟨(some 25), .none, (.mov (.t 0)), 0, []⟩, ⟨(some 26), .none, (.nilc (.t 25)), 1, [0]⟩, ⟨(some 27), .none, (.fadr 1 (.t 26)), 2, [1, 0]⟩, ⟨(some 28), .none, (.load 1 false (.t 27)), 3, [2, 1, 0]⟩, ⟨(some 29), .none, (.mov (.t 0)), 4, []⟩, ⟨(some 30), .none, (.nilc (.t 29)), 5, [4]⟩, ⟨(some 31), .none, (.fadr 0 (.t 30)), 6, [5, 4]⟩, ⟨(some 32), .none, (.load 1 false (.t 31)), 7, [6, 5, 4]⟩, ⟨(some 33), .none, (.lenS (.t 32)), 8, [7, 6, 5, 4]⟩, ⟨(some 34), .none, (.bin .lss (.t 28) (.t 33)), 9, [3, 2, 1, 0, 8, 7, 6, 5, 4]⟩]) (.cond (.t 34) (.seq (.reg true [⟨(some 35), .none, (.mov (.t 3)), 0, []⟩, ⟨(some 36), .none, (.mov (.t 0)), 1, []⟩, ⟨(some 37), .none, (.nilc (.t 36)), 2, [1]⟩, ⟨(some 38), .none, (.fadr 0 (.t 37)), 3, [2, 1]⟩, ⟨(some 39), .none, (.load 1 false (.t 38)), 4, [3, 2, 1]⟩, ⟨(some 40), .none, (.mov (.t 0)), 5, []⟩, ⟨(some 41), .none, (.nilc (.t 40)), 6, [5]⟩, ⟨(some 42), .none, (.fadr 1 (.t 41)), 7, [6, 5]⟩, ⟨(some 43), .none, (.load 1 false (.t 42)), 8, [7, 6, 5]⟩, ⟨(some 44), .none, (.iadr 1 (.t 39) (.t 43)), 9, [4, 3, 2, 1, 8, 7, 6, 5]⟩, ⟨(some 45), .none, (.load 1 false (.t 44)), 10, [9, 4, 3, 2, 1, 8, 7, 6, 5]⟩, ⟨(some 46), .none, (.toInt .i64 (.t 45)), 11, [10, 9, 4, 3, 2, 1, 8, 7, 6, 5]⟩, ⟨(some 47), .none, (.bin .add (.t 35) (.t 46)), 12, [0, 11, 10, 9, 4, 3, 2, 1, 8, 7, 6, 5]⟩, ⟨(some 48), .none, (.bin .and (.t 47) (.c (.int .i64 255))), 13, [12, 0, 11, 10, 9, 4, 3, 2, 1, 8, 7, 6, 5]⟩, ⟨(some 3), .none, (.mov (.t 48)), 14, [13, 12, 0, 11, 10, 9, 4, 3, 2, 1, 8, 7, 6, 5]⟩]) (.reg false [⟨(some 49), .none, (.mov (.t 0)), 0, []⟩, ⟨(some 50), .none, (.mov (.t 0)), 1, []⟩, ⟨(some 51), .none, (.nilc (.t 50)), 2, []⟩, ⟨(some 52), .none, (.fadr 1 (.t 51)), 3, []⟩, ⟨(some 53), .none, (.load 1 false (.t 52)), 4, []⟩, ⟨(some 54), .none, (.bin .add (.t 53) (.c (.int .i64 1))), 5, []⟩, ⟨(some 55), .none, (.nilc (.t 49)), 6, []⟩, ⟨(some 56), .none, (.fadr 1 (.t 55)), 7, []⟩, ⟨.none, .none, (.store 1 (.t 56) (.t 54)), 8, []⟩])) .skip)) (.seq (.reg false [⟨(some 57), .none, (.mov (.t 3)), 0, []⟩, ⟨(some 2), .none, (.mov (.t 57)), 1, []⟩]) .ret))))), [(.t 2)]⟩
theorem k77 : EE.fns 77 = some c77 := by kernel_rfl
end Go.Proofs.Ytceilcdhflcbpaa.Ev

/- A row of tasks cut in two: what holds where the front ends, and what is left from there. -/
namespace Go.Proofs.Ytceilcdhflcbpaa.Ev
set_option linter.all false
open Go

section
variable {E : Env} {m : Md}
variable {s s1 s2 : St} {Q : Ex → St → Prop} {L L1 L2 : List Tk}
end
attribute [go_sem] List.drop_nil List.take_nil
end Go.Proofs.Ytceilcdhflcbpaa.Ev
