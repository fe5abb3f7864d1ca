/- Two operations of a region that do not meet may change places. -/
import Derived.Test.YtdplmjlbkaipiaaE11
namespace Go.Proofs.Ytdplmjlbkaipiaa.Ev
set_option linter.all false
open Go

theorem ex_congr {ρ ρ' : Nat → FV} {x : X} (h : ∀ t ∈ xs1 x, ρ' t = ρ t) : ex ρ' x = ex ρ x := by
  cases x with
  | t n => exact h n (by simp [xs1])
  | c v => rfl
  | f n => rfl

theorem exv_congr {ρ ρ' : Nat → FV} {x : X} (h : ∀ t ∈ xs1 x, ρ' t = ρ t) : exv ρ' x = exv ρ x := by
  unfold exv; rw [ex_congr h]

theorem exc_congr {ρ ρ' : Nat → FV} {x : X} (h : ∀ t ∈ xs1 x, ρ' t = ρ t) : exc ρ' x = exc ρ x := by
  unfold exc; rw [exv_congr h]

theorem adr_congr {ρ ρ' : Nat → FV} {x : X} (h : ∀ t ∈ xs1 x, ρ' t = ρ t) : adr ρ' x = adr ρ x := by
  cases x with
  | t n => simp only [adr, h n (by simp [xs1])]
  | c v => rfl
  | f n => rfl

theorem exvs_congr {ρ ρ' : Nat → FV} : ∀ {xs : List X}, (∀ t ∈ xs.flatMap xs1, ρ' t = ρ t) → exvs ρ' xs = exvs ρ xs
  | [], _ => rfl
  | x :: xs, h => by
    simp only [exvs]
    rw [exv_congr (fun t ht => h t (by simp [ht])), exvs_congr (fun t ht => h t (by rw [List.flatMap_cons]; exact List.mem_append_right _ ht))]

theorem exps_congr {ρ ρ' : Nat → FV} : ∀ {xs : List (Nat × Nat × X)}, (∀ t ∈ (xs.map fun p => p.2.2).flatMap xs1, ρ' t = ρ t) → exps ρ' xs = exps ρ xs
  | [], _ => rfl
  | (o, n, x) :: xs, h => by
    simp only [exps]
    rw [exv_congr (fun t ht => h t (by simp [ht])), exps_congr (fun t ht => h t (by rw [List.map_cons, List.flatMap_cons]; exact List.mem_append_right _ ht))]

theorem bnd_congr {ρ ρ' : Nat → FV} {d : Int} {x : Option X} (h : ∀ t ∈ x.toList.flatMap xs1, ρ' t = ρ t) : bnd ρ' d x = bnd ρ d x := by
  cases x with
  | none => rfl
  | some x => simp only [bnd]; rw [exv_congr fun t ht => h t (by simpa using ht)]

/-- Operations that make a value out of values alone. -/
def CK.plain : CK → Bool
  | .mov _ | .pick .. | .bin .. | .beq .. | .aeq .. | .un .. | .toInt .. | .str _ | .fld .. | .idx .. | .build .. | .ext .. | .iadr .. | .slc .. | .slcS .. | .lenS _ | .lenT _ | .mx .. | .mn .. | .fn .. | .nilc _ | .mkV .. => true
  | _ => false

theorem plain_loc {m : Md} {s u s' : St} {k : CK} {f : FV} (hk : k.plain = true) (h : stepK m s k = some (f, s')) (hr : ∀ t ∈ k.ops.flatMap xs1, u.ρ t = s.ρ t) : s' = s ∧ stepK m u k = some (f, u) := by
  cases k with
  | mov x =>
    have e := ex_congr (x := x) fun t ht => hr t (by simp [CK.ops, ht])
    simp only [stepK, movK, e] at h ⊢
    split at h
    · rename_i f' hf; cases h; exact ⟨rfl, by first | rfl | (simp [St.val, ofV, *]; done)⟩
    · cases h
  | pick c a b =>
    have e1 := exv_congr (x := c) fun t ht => hr t (by simp [CK.ops, ht])
    have e2 := exv_congr (x := a) fun t ht => hr t (by simp [CK.ops, ht])
    have e3 := exv_congr (x := b) fun t ht => hr t (by simp [CK.ops, ht])
    simp only [stepK, pickK, e1, e2, e3] at h ⊢
    split at h
    · simp only [St.val] at h; cases h; exact ⟨rfl, by first | rfl | (simp [St.val, ofV, *]; done)⟩
    · cases h
  | bin op x y =>
    have e1 := exv_congr (x := x) fun t ht => hr t (by simp [CK.ops, ht])
    have e2 := exv_congr (x := y) fun t ht => hr t (by simp [CK.ops, ht])
    simp only [stepK, binK, e1, e2] at h ⊢
    split at h
    · rename_i p q _ _
      cases hb : binV op p q <;> simp only [ofV, hb] at h ⊢ <;> cases h
      exact ⟨rfl, by first | rfl | (simp [St.val, ofV, *]; done)⟩
    · cases h
  | beq neg x y =>
    have e1 := exv_congr (x := x) fun t ht => hr t (by simp [CK.ops, ht])
    have e2 := exv_congr (x := y) fun t ht => hr t (by simp [CK.ops, ht])
    simp only [stepK, beqK, e1, e2] at h ⊢
    split at h
    · simp only [St.val] at h; cases h; exact ⟨rfl, by first | rfl | (simp [St.val, ofV, *]; done)⟩
    · cases h
  | aeq neg ks x y =>
    have e1 := exv_congr (x := x) fun t ht => hr t (by simp [CK.ops, ht])
    have e2 := exv_congr (x := y) fun t ht => hr t (by simp [CK.ops, ht])
    simp only [stepK, aeqK, e1, e2] at h ⊢
    split at h
    · split at h
      · simp only [St.val] at h; cases h; exact ⟨rfl, by first | rfl | (simp [St.val, ofV, *]; done)⟩
      · cases h
    · cases h
  | un op x =>
    have e1 := exv_congr (x := x) fun t ht => hr t (by simp [CK.ops, ht])
    simp only [stepK, unK, e1] at h ⊢
    split at h
    · rename_i p _
      cases hb : unV op p <;> simp only [ofV, hb] at h ⊢ <;> cases h
      exact ⟨rfl, by first | rfl | (simp [St.val, ofV, *]; done)⟩
    · cases h
  | toInt kk x =>
    have e1 := exv_congr (x := x) fun t ht => hr t (by simp [CK.ops, ht])
    simp only [stepK, toIntK, e1] at h ⊢
    split at h
    · simp only [St.val] at h; cases h; exact ⟨rfl, by first | rfl | (simp [St.val, ofV, *]; done)⟩
    · cases h
  | str x =>
    have e1 := exv_congr (x := x) fun t ht => hr t (by simp [CK.ops, ht])
    simp only [stepK, strK, e1] at h ⊢
    split at h
    · simp only [St.val] at h; cases h; exact ⟨rfl, by first | rfl | (simp [St.val, ofV, *]; done)⟩
    · cases h
  | fld off n agg x =>
    have e1 := exv_congr (x := x) fun t ht => hr t (by simp [CK.ops, ht])
    simp only [stepK, fldK, e1] at h ⊢
    split at h
    · rename_i cs _
      split at h
      · simp only [St.val] at h; cases h; exact ⟨rfl, by first | rfl | (simp [St.val, ofV, *]; done)⟩
      · cases hb : cs[off]? <;> simp only [ofV, hb] at h ⊢ <;> cases h
        exact ⟨rfl, by first | rfl | (simp [St.val, ofV, *]; done)⟩
    · cases h
  | idx x i =>
    have e1 := exv_congr (x := x) fun t ht => hr t (by simp [CK.ops, ht])
    have e2 := exv_congr (x := i) fun t ht => hr t (by simp [CK.ops, ht])
    simp only [stepK, idxK, e1, e2] at h ⊢
    split at h
    · split at h
      · split at h
        · simp only [St.val] at h; cases h; exact ⟨rfl, by first | rfl | (simp [St.val, ofV, *]; done)⟩
        · cases h
      · cases h
    · cases h
  | build zero parts =>
    have e1 := exps_congr (xs := parts) fun t ht => hr t (by simpa [CK.ops] using ht)
    simp only [stepK, buildK, e1] at h ⊢
    split at h
    · split at h
      · simp only [St.val] at h; cases h; exact ⟨rfl, by first | rfl | (simp [St.val, ofV, *]; done)⟩
      · cases h
    · cases h
  | ext x i =>
    have e1 := exv_congr (x := x) fun t ht => hr t (by simp [CK.ops, ht])
    simp only [stepK, extK, e1] at h ⊢
    split at h
    · rename_i vs _
      cases hb : vs[i]? <;> simp only [ofV, hb] at h ⊢ <;> cases h
      exact ⟨rfl, by first | rfl | (simp [St.val, ofV, *]; done)⟩
    · cases h
  | iadr esz x i =>
    have e1 := exv_congr (x := x) fun t ht => hr t (by simp [CK.ops, ht])
    have e2 := exv_congr (x := i) fun t ht => hr t (by simp [CK.ops, ht])
    simp only [stepK, iadrK, e1, e2] at h ⊢
    split at h
    · split at h
      · rename_i hc; cases h; exact ⟨rfl, by first | rfl | (simp [St.val, ofV, *]; done)⟩
      · cases h
    · cases h
  | slc esz x lo hi =>
    have e1 := exv_congr (x := x) fun t ht => hr t (by simp [CK.ops, ht])
    have e2 : ∀ d, bnd u.ρ d lo = bnd s.ρ d lo := fun d => bnd_congr (x := lo) fun t ht => hr t (by simp only [CK.ops, List.flatMap_cons, List.flatMap_append, List.mem_append]; exact .inr (.inl ht))
    have e3 : ∀ d, bnd u.ρ d hi = bnd s.ρ d hi := fun d => bnd_congr (x := hi) fun t ht => hr t (by simp only [CK.ops, List.flatMap_cons, List.flatMap_append, List.mem_append]; exact .inr (.inr ht))
    simp only [stepK, slcK, e1, e2, e3] at h ⊢
    split at h
    · split at h
      · split at h
        · simp only [St.val] at h; cases h; exact ⟨rfl, by first | rfl | (simp [St.val, ofV, *]; done)⟩
        · cases h
      · cases h
    · split at h
      · split at h
        · rename_i hc; simp only [St.val] at h; cases h; exact ⟨rfl, by first | rfl | (simp [St.val, ofV, *]; done)⟩
        · cases h
      · cases h
    · cases h
  | slcS x lo hi =>
    have e1 := exv_congr (x := x) fun t ht => hr t (by simp [CK.ops, ht])
    have e2 : ∀ d, bnd u.ρ d lo = bnd s.ρ d lo := fun d => bnd_congr (x := lo) fun t ht => hr t (by simp only [CK.ops, List.flatMap_cons, List.flatMap_append, List.mem_append]; exact .inr (.inl ht))
    have e3 : ∀ d, bnd u.ρ d hi = bnd s.ρ d hi := fun d => bnd_congr (x := hi) fun t ht => hr t (by simp only [CK.ops, List.flatMap_cons, List.flatMap_append, List.mem_append]; exact .inr (.inr ht))
    simp only [stepK, slcSK, e1, e2, e3] at h ⊢
    split at h
    · split at h
      · split at h
        · rename_i hc; simp only [St.val] at h; cases h; exact ⟨rfl, by first | rfl | (simp [St.val, ofV, *]; done)⟩
        · cases h
      · cases h
    · cases h
  | lenS x =>
    have e1 := exv_congr (x := x) fun t ht => hr t (by simp [CK.ops, ht])
    simp only [stepK, lenSK, e1] at h ⊢
    split at h
    · simp only [St.val] at h; cases h; exact ⟨rfl, by first | rfl | (simp [St.val, ofV, *]; done)⟩
    · simp only [St.val] at h; cases h; exact ⟨rfl, by first | rfl | (simp [St.val, ofV, *]; done)⟩
    · cases h
  | lenT x =>
    have e1 := exv_congr (x := x) fun t ht => hr t (by simp [CK.ops, ht])
    simp only [stepK, lenTK, e1] at h ⊢
    split at h
    · simp only [St.val] at h; cases h; exact ⟨rfl, by first | rfl | (simp [St.val, ofV, *]; done)⟩
    · cases h
  | mx x y =>
    have e1 := exv_congr (x := x) fun t ht => hr t (by simp [CK.ops, ht])
    have e2 := exv_congr (x := y) fun t ht => hr t (by simp [CK.ops, ht])
    simp only [stepK, mxK, e1, e2] at h ⊢
    split at h
    · simp only [St.val] at h; cases h; exact ⟨rfl, by first | rfl | (simp [St.val, ofV, *]; done)⟩
    · cases h
  | mn x y =>
    have e1 := exv_congr (x := x) fun t ht => hr t (by simp [CK.ops, ht])
    have e2 := exv_congr (x := y) fun t ht => hr t (by simp [CK.ops, ht])
    simp only [stepK, mnK, e1, e2] at h ⊢
    split at h
    · simp only [St.val] at h; cases h; exact ⟨rfl, by first | rfl | (simp [St.val, ofV, *]; done)⟩
    · cases h
  | fn g caps =>
    have e1 := exvs_congr (xs := caps) fun t ht => hr t (by simpa [CK.ops] using ht)
    simp only [stepK, fnK, e1] at h ⊢
    split at h
    · simp only [St.val] at h; cases h; exact ⟨rfl, by first | rfl | (simp [St.val, ofV, *]; done)⟩
    · cases h
  | nilc x =>
    have e1 := ex_congr (x := x) fun t ht => hr t (by simp [CK.ops, ht])
    simp only [stepK, nilcK, e1] at h ⊢
    split at h
    · simp only [St.val] at h; cases h; exact ⟨rfl, by first | rfl | (simp [St.val, ofV, *]; done)⟩
    · simp only [St.val] at h; cases h; exact ⟨rfl, by first | rfl | (simp [St.val, ofV, *]; done)⟩
    · cases h
  | mkV len esz zero parts =>
    have e1 := exps_congr (xs := parts.map fun p => (p.1 * esz, esz, p.2)) (ρ := s.ρ) (ρ' := u.ρ) fun t ht => hr t (by simpa [CK.ops, List.map_map, Function.comp_def] using ht)
    simp only [stepK, mkVK, mkCells, e1] at h ⊢
    split at h
    · rename_i cs hcs; cases h; exact ⟨rfl, by first | rfl | (simp [St.val, ofV, *]; done)⟩
    · cases h
  | _ => simp [CK.plain] at hk

/-- Two states that agree on what an operation looks at. -/
structure Agr (i : Inf) (s u : St) : Prop where
  rd : ∀ x ∈ i.rd, u.ρ x = s.ρ x
  gn : i.gn = true → u.gn = s.gn
  he : i.he ≠ 0 → u.H = s.H
  hr : ∀ id ∈ i.hr, u.H[id]? = s.H[id]?

/-- What an operation does at another state. -/
structure Loc2 (i : Inf) (t u t' : St) : Prop where
  wt : ∀ x ∈ i.wt, t'.ρ x = t.ρ x
  ot : ∀ x, x ∉ i.wt → t'.ρ x = u.ρ x
  gn : t'.gn = if i.gn = true then t.gn else u.gn
  H : t'.H = if i.he = 0 then u.H else t.H

section
variable {E : Env} {m : Md} {ev : Evf}

theorem deref_congr {s u : St} {ρx : X} {ad : Ad} (ha : adr s.ρ ρx = some ad) (h1 : ∀ t ∈ (adInf s.ρ ρx).1, u.ρ t = s.ρ t) (h2 : ∀ id ∈ (adInf s.ρ ρx).2, u.H[id]? = s.H[id]?) : deref u ad = deref s ad := by
  unfold adInf at h1 h2
  rw [ha] at h1 h2
  cases ad with
  | hp id off gen => simp only [deref, h2 id (by simp)]
  | box t g off => simp only [deref, h1 t (by simp)]

theorem live_congr {s u : St} {ρx : X} {ad : Ad} (ha : adr s.ρ ρx = some ad) (h1 : ∀ t ∈ (adInf s.ρ ρx).1, u.ρ t = s.ρ t) : ad.live u.ρ = ad.live s.ρ := by
  unfold adInf at h1
  rw [ha] at h1
  cases ad with
  | hp id off gen => rfl
  | box t g off => simp only [Ad.live, h1 t (by simp)]

theorem src_congr {H H' : Hp} {esz : Nat} {f : FV} (h : ∀ id ∈ srcInf f, H'[id]? = H[id]?) : srcOf H' esz f = srcOf H esz f := by
  cases f with
  | val v =>
    have hrow : rowOf H' v = rowOf H v := by
      unfold rowOf
      split
      · rename_i id off e len cap
        rw [h id (by simp [srcInf, idsOf])]
      · rfl
    unfold srcOf
    split
    · rfl
    · rename_i v' _ he
      cases he
      rw [hrow]
    · rename_i he; cases he
    · rfl
  | bx g cs => rfl
  | vp t g off => rfl
  | vs n cs => rfl
  | junk => rfl

theorem stepC_none {draw : Bool} {s : St} {k : CK} (h : callee s k = none) : stepC E m draw ev s k = stepK m s k := by
  unfold stepC
  rw [h]

theorem callee_congr {s u : St} {k : CK} (h : ∀ x ∈ k.ops.flatMap xs1, u.ρ x = s.ρ x) : callee u k = callee s k := by
  cases k <;> first | rfl | skip
  · rename_i f args
    simp only [callee]
    rw [exvs_congr fun t ht => h t (by simpa [CK.ops] using ht)]
  · rename_i x args
    simp only [callee]
    rw [exv_congr (x := x) fun t ht => h t (by simp [CK.ops, ht]), exvs_congr (xs := args) fun t ht => h t (by simp only [CK.ops, List.flatMap_cons, List.mem_append]; exact .inr ht)]

theorem plain_inf {pw : Nat → Bool} {s : St} {k : CK} (h : k.plain = true) : infK pw s k = { rd := k.ops.flatMap xs1, wt := [], hr := [], he := 0, ha := [] } := by
  cases k <;> first | rfl | (simp [CK.plain] at h)

theorem plain_callee {s : St} {k : CK} (h : k.plain = true) : callee s k = none := by
  cases k <;> first | rfl | (simp [CK.plain] at h)

theorem stepC_loc {pw : Nat → Bool} (hpw : E.pw = pw) {s t u : St} {k : CK} {f : FV} (h : stepC E m true ev s k = some (f, t)) (ha : Agr (infK pw s k) s u) :
    ∃ t', stepC E m true ev u k = some (f, t') ∧ infK pw u k = infK pw s k ∧ Loc2 (infK pw s k) t u t' := by
  subst hpw
  by_cases hp : k.plain = true
  · have e := plain_inf (pw := E.pw) (s := s) hp
    rw [e] at ha ⊢
    rw [stepC_none (plain_callee hp)] at h
    obtain ⟨rfl, h2⟩ := plain_loc (u := u) hp h ha.rd
    exact ⟨u, by rw [stepC_none (plain_callee hp)]; exact h2, plain_inf hp, ⟨fun x hx => (by cases hx), fun x _ => rfl, rfl, rfl⟩⟩
  cases k with
  | fadr off x =>
    have hr := ha.rd
    simp only [infK] at hr
    have e1 := adr_congr (x := x) (ρ := s.ρ) (ρ' := u.ρ) fun t ht => hr t (List.mem_append_left _ (by simp [CK.ops, ht]))
    have e2 : infK E.pw u (.fadr off x) = infK E.pw s (.fadr off x) := by simp only [infK, adInf, e1]
    simp only [stepC, callee, stepK, fadrK, e1] at h ⊢
    split at h
    · rename_i ad had
      have hl := live_congr (u := u) had fun t ht => hr t (List.mem_append_right _ ht)
      split at h
      · rename_i hlive
        cases h
        exact ⟨u, by simp only [had, hl, hlive, if_true], e2, ⟨fun x hx => (by cases hx), fun x _ => rfl, rfl, rfl⟩⟩
      · cases h
    · cases h
  | iadrA len esz x i =>
    have hr := ha.rd
    simp only [infK] at hr
    have e1 := adr_congr (x := x) (ρ := s.ρ) (ρ' := u.ρ) fun t ht => hr t (List.mem_append_left _ (by simp [CK.ops, ht]))
    have e3 := exv_congr (x := i) (ρ := s.ρ) (ρ' := u.ρ) fun t ht => hr t (List.mem_append_left _ (by simp [CK.ops, ht]))
    have e2 : infK E.pw u (.iadrA len esz x i) = infK E.pw s (.iadrA len esz x i) := by simp only [infK, adInf, e1]
    simp only [stepC, callee, stepK, iadrAK, e1, e3] at h ⊢
    split at h
    · rename_i ad _ n had _
      have hl := live_congr (u := u) had fun t ht => hr t (List.mem_append_right _ ht)
      split at h
      · rename_i hc
        cases h
        refine ⟨u, ?_, e2, ⟨fun x hx => (by cases hx), fun x _ => rfl, rfl, rfl⟩⟩
        simp only [*]
        first | rfl | (rw [if_pos (by simp_all)])
      · cases h
    · cases h
  | load n agg x =>
    have hr := ha.rd
    have hh := ha.hr
    simp only [infK] at hr hh
    have e1 := adr_congr (x := x) (ρ := s.ρ) (ρ' := u.ρ) fun t ht => hr t (List.mem_append_left _ (by simp [CK.ops, ht]))
    have e2 : infK E.pw u (.load n agg x) = infK E.pw s (.load n agg x) := by simp only [infK, adInf, e1]
    simp only [stepC, callee, stepK, loadK, e1] at h ⊢
    cases had : adr s.ρ x with
    | none => simp only [had] at h; cases h
    | some ad =>
      have hd := deref_congr (u := u) had (fun t ht => hr t (List.mem_append_right _ ht)) hh
      simp only [had] at h ⊢
      rw [hd]
      cases hde : deref s ad with
      | none => simp only [hde] at h; cases h
      | some p =>
        obtain ⟨os, off⟩ := p
        simp only [hde] at h ⊢
        refine ⟨u, ?_, e2, ⟨fun x hx => (by cases hx), fun x _ => rfl, rfl, rfl⟩⟩
        split at h
        · split at h
          · rename_i hc; simp only [St.val] at h; cases h; first | rfl | (simp [*]; rfl)
          · cases h
        · cases hb : os[off]? <;> simp only [ofV, hb] at h ⊢ <;> cases h
          first | rfl | (simp [*])
  | store n x v =>
    have e1 : adr u.ρ x = adr s.ρ x := adr_congr (x := x) fun t ht => ha.rd t (by
      simp only [infK]
      split
      · exact List.mem_append_left _ (by simp [CK.ops, ht])
      · simp [CK.ops, ht])
    have e3 : exc u.ρ v = exc s.ρ v := exc_congr (x := v) fun t ht => ha.rd t (by
      simp only [infK]
      split
      · exact List.mem_append_left _ (by simp [CK.ops, ht])
      · simp [CK.ops, ht])
    have e2 : infK E.pw u (.store n x v) = infK E.pw s (.store n x v) := by simp only [infK, e1]
    simp only [stepC, callee, stepK, storeK, e1, e3] at h ⊢
    cases had : adr s.ρ x with
    | none => simp only [had] at h; cases h
    | some ad =>
      cases hvs : exc s.ρ v with
      | none => simp only [had, hvs] at h; cases h
      | some vs =>
        simp only [had, hvs] at h ⊢
        cases ad with
        | hp id off gen =>
          have hi : infK E.pw s (.store n x v) = { rd := (CK.store n x v).ops.flatMap xs1, wt := [], hr := [], he := 3, ha := [] } := by simp only [infK, had]
          have hH : u.H = s.H := ha.he (by rw [hi]; simp)
          have hd : deref u (.hp id off gen) = deref s (.hp id off gen) := by simp only [deref, hH]
          rw [hd]
          cases hde : deref s (.hp id off gen) with
          | none => simp only [hde] at h; cases h
          | some p =>
            obtain ⟨os, off'⟩ := p
            simp only [hde] at h ⊢
            split at h
            · rename_i hc1
              split at h
              · rename_i hc2
                cases h
                refine ⟨{ u with H := u.H.set id (spl os off' vs) }, ?_, e2, ?_⟩
                · simp only [if_pos hc1, if_pos hc2]
                · rw [hi]
                  exact ⟨fun x hx => (by cases hx), fun x _ => rfl, rfl, by simp [hH]⟩
              · cases h
            · cases h
        | box t' g off =>
          have hi : infK E.pw s (.store n x v) = { rd := (CK.store n x v).ops.flatMap xs1 ++ [t'], wt := [t'], hr := [], he := 0, ha := [] } := by simp only [infK, had]
          have ht : u.ρ t' = s.ρ t' := ha.rd t' (by rw [hi]; simp)
          have hd : deref u (.box t' g off) = deref s (.box t' g off) := by simp only [deref, ht]
          rw [hd]
          cases hde : deref s (.box t' g off) with
          | none => simp only [hde] at h; cases h
          | some p =>
            obtain ⟨os, off'⟩ := p
            simp only [hde] at h ⊢
            split at h
            · rename_i hc1
              cases h
              refine ⟨{ u with ρ := upd u.ρ (some t') (.bx g (spl os off' vs)) }, ?_, e2, ?_⟩
              · simp only [if_pos hc1]
              · rw [hi]
                refine ⟨fun x hx => ?_, fun x hx => ?_, rfl, rfl⟩
                · have : x = t' := by simpa using hx
                  subst this
                  simp [upd]
                · have : x ≠ t' := by simpa using hx
                  simp [upd, this]
            · cases h
  | newV zero =>
    have hg : u.gn = s.gn := ha.gn rfl
    simp only [stepC, callee, stepK, newVK] at h ⊢
    cases h
    exact ⟨{ u with gn := u.gn + 1 }, by rw [hg], rfl, ⟨fun x hx => (by cases hx), fun x _ => rfl, by simp [infK, hg], rfl⟩⟩
  | boxV x =>
    have hg : u.gn = s.gn := ha.gn rfl
    have hr := ha.rd
    simp only [infK] at hr
    have e1 := exc_congr (x := x) (ρ := s.ρ) (ρ' := u.ρ) fun t ht => hr t (by simp [CK.ops, ht])
    simp only [stepC, callee, stepK, boxVK, newVK, e1] at h ⊢
    cases hvs : exc s.ρ x with
    | none => simp only [hvs] at h; cases h
    | some vs =>
      simp only [hvs] at h ⊢
      cases h
      exact ⟨{ u with gn := u.gn + 1 }, by rw [hg], rfl, ⟨fun x hx => (by cases hx), fun x _ => rfl, by simp [infK, hg], rfl⟩⟩
  | b2s x =>
    have hr := ha.rd
    have hh := ha.hr
    simp only [infK] at hr hh
    have e1 := ex_congr (x := x) (ρ := s.ρ) (ρ' := u.ρ) fun t ht => hr t (by simp [CK.ops, ht])
    have e2 : infK E.pw u (.b2s x) = infK E.pw s (.b2s x) := by simp only [infK, e1]
    have e3 := src_congr (H := s.H) (H' := u.H) (esz := 1) (f := ex s.ρ x) hh
    simp only [stepC, callee, stepK, b2sK, e1, e3] at h ⊢
    split at h
    · split at h
      · simp only [St.val] at h; cases h
        exact ⟨u, by first | rfl | (simp [St.val, *]; done), e2, ⟨fun x hx => (by cases hx), fun x _ => rfl, rfl, rfl⟩⟩
      · cases h
    · cases h
  | newO zero =>
    have hH : u.H = s.H := ha.he (by simp [infK])
    simp only [stepC, callee, stepK, newOK] at h ⊢
    cases h
    exact ⟨{ u with H := u.H ++ [zero] }, by rw [hH], rfl, ⟨fun x hx => (by cases hx), fun x _ => rfl, rfl, by simp [infK, hH]⟩⟩
  | boxO x =>
    have hH : u.H = s.H := ha.he (by simp [infK])
    have hr := ha.rd
    simp only [infK] at hr
    have e1 := exc_congr (x := x) (ρ := s.ρ) (ρ' := u.ρ) fun t ht => hr t (by simp [CK.ops, ht])
    simp only [stepC, callee, stepK, boxOK, newOK, e1] at h ⊢
    cases hvs : exc s.ρ x with
    | none => simp only [hvs] at h; cases h
    | some vs =>
      simp only [hvs] at h ⊢
      cases h
      exact ⟨{ u with H := u.H ++ [vs] }, by rw [hH], rfl, ⟨fun x hx => (by cases hx), fun x _ => rfl, rfl, by simp [infK, hH]⟩⟩
  | mkO len esz zero parts =>
    have hH : u.H = s.H := ha.he (by simp [infK])
    have hr := ha.rd
    simp only [infK] at hr
    have e1 := exps_congr (xs := parts.map fun p => (p.1 * esz, esz, p.2)) (ρ := s.ρ) (ρ' := u.ρ) fun t ht => hr t (by simpa [CK.ops, List.map_map, Function.comp_def] using ht)
    simp only [stepC, callee, stepK, mkOK, mkCells, e1] at h ⊢
    split at h
    · rename_i cs hcs
      cases h
      exact ⟨{ u with H := u.H ++ [cs] }, by simp only [hcs, hH], rfl, ⟨fun x hx => (by cases hx), fun x _ => rfl, rfl, by simp [infK, hH]⟩⟩
    · cases h
  | makeS esz bytes zero l c =>
    have hH : u.H = s.H := ha.he (by simp [infK])
    have hr := ha.rd
    simp only [infK] at hr
    have e1 := exv_congr (x := l) (ρ := s.ρ) (ρ' := u.ρ) fun t ht => hr t (by simp [CK.ops, ht])
    have e2 := exv_congr (x := c) (ρ := s.ρ) (ρ' := u.ρ) fun t ht => hr t (by simp [CK.ops, ht])
    simp only [stepC, callee, stepK, makeSK, e1, e2, hH] at h ⊢
    split at h
    · rename_i l' c' _ _
      split at h
      · rename_i hc
        cases h
        exact ⟨{ u with H := u.H ++ [zeros c'.toNat zero] }, by simp only [if_pos hc, hH], rfl, ⟨fun x hx => (by cases hx), fun x _ => rfl, rfl, by simp [infK, hH]⟩⟩
      · cases h
    · cases h
  | s2b esz x =>
    have hH : u.H = s.H := ha.he (by simp [infK])
    have hr := ha.rd
    simp only [infK] at hr
    have e1 := exv_congr (x := x) (ρ := s.ρ) (ρ' := u.ρ) fun t ht => hr t (by simp [CK.ops, ht])
    simp only [stepC, callee, stepK, s2bK, e1, hH] at h ⊢
    split at h
    · rename_i b _
      cases h
      exact ⟨{ u with H := u.H ++ [b.data.toList.map fun c => Value.int .u8 c.toNat] }, by rw [hH], rfl, ⟨fun x hx => (by cases hx), fun x _ => rfl, rfl, by simp [infK, hH]⟩⟩
    · cases h
  | app esz bytes x y =>
    have hH : u.H = s.H := ha.he (by simp [infK])
    have hr := ha.rd
    simp only [infK] at hr
    have e1 := exv_congr (x := x) (ρ := s.ρ) (ρ' := u.ρ) fun t ht => hr t (by simp [CK.ops, ht])
    have e2 := ex_congr (x := y) (ρ := s.ρ) (ρ' := u.ρ) fun t ht => hr t (by simp [CK.ops, ht])
    obtain ⟨uρ, ugn, uH⟩ := u
    simp only at hH e1 e2
    subst hH
    have key : ∀ r : FV × St, appK m s esz bytes x y = some r → appK m ⟨uρ, ugn, s.H⟩ esz bytes x y = some (r.1, ⟨uρ, ugn, r.2.H⟩) := fun r hr => by
      simp only [appK, e1, e2] at hr ⊢
      split at hr
      · split at hr
        · rename_i hn
          rw [if_pos hn]
          split at hr
          · simp only [St.val] at hr; cases hr; rfl
          · simp only [St.val] at hr; cases hr; rfl
          · cases hr
        · rename_i hn
          rw [if_neg hn]
          split at hr
          · split at hr
            · rename_i hc
              cases hr; simp only [if_pos hc]
            · cases hr
          · split at hr
            · rename_i ho
              try simp only [ho]
              split at hr
              · rename_i hc
                rw [if_pos hc]
                split at hr
                · rename_i hc2
                  cases hr; rw [if_pos hc2]
                · rename_i hc2
                  rw [if_neg hc2]
                  split at hr
                  · rename_i hc3
                    cases hr; rw [if_pos hc3]
                  · cases hr
              · cases hr
            · cases hr
          · cases hr
      · cases hr
    exact ⟨_, key _ h, rfl, ⟨fun x hx => (by cases hx), fun x _ => rfl, rfl, by simp [infK]⟩⟩
  | cpy esz x y =>
    have hH : u.H = s.H := ha.he (by simp [infK])
    have hr := ha.rd
    simp only [infK] at hr
    have e1 := exv_congr (x := x) (ρ := s.ρ) (ρ' := u.ρ) fun t ht => hr t (by simp [CK.ops, ht])
    have e2 := ex_congr (x := y) (ρ := s.ρ) (ρ' := u.ρ) fun t ht => hr t (by simp [CK.ops, ht])
    obtain ⟨uρ, ugn, uH⟩ := u
    simp only at hH e1 e2
    subst hH
    have key : ∀ r : FV × St, cpyK m s esz x y = some r → cpyK m ⟨uρ, ugn, s.H⟩ esz x y = some (r.1, ⟨uρ, ugn, r.2.H⟩) := fun r hr => by
      simp only [cpyK, e1, e2] at hr ⊢
      split at hr
      · simp only [St.val] at hr; cases hr; rfl
      · split at hr
        · rename_i ho
          try simp only [ho]
          split at hr
          · rename_i hc
            cases hr; rw [if_pos hc]
          · cases hr
        · cases hr
      · cases hr
    exact ⟨_, key _ h, rfl, ⟨fun x hx => (by cases hx), fun x _ => rfl, rfl, by simp [infK]⟩⟩
  | clr esz zero x =>
    have hH : u.H = s.H := ha.he (by simp [infK])
    have hr := ha.rd
    simp only [infK] at hr
    have e1 := exv_congr (x := x) (ρ := s.ρ) (ρ' := u.ρ) fun t ht => hr t (by simp [CK.ops, ht])
    obtain ⟨uρ, ugn, uH⟩ := u
    simp only at hH e1
    subst hH
    have key : ∀ r : FV × St, clrK m s esz zero x = some r → clrK m ⟨uρ, ugn, s.H⟩ esz zero x = some (r.1, ⟨uρ, ugn, r.2.H⟩) := fun r hr => by
      simp only [clrK, e1] at hr ⊢
      split at hr
      · simp only [St.val] at hr; cases hr; rfl
      · split at hr
        · rename_i ho
          try simp only [ho]
          split at hr
          · rename_i hc
            cases hr; rw [if_pos hc]
          · cases hr
        · cases hr
      · cases hr
    exact ⟨_, key _ h, rfl, ⟨fun x hx => (by cases hx), fun x _ => rfl, rfl, by simp [infK]⟩⟩
  | call g args =>
    have hrd : ∀ t ∈ (CK.call g args).ops.flatMap xs1, u.ρ t = s.ρ t := fun t ht => ha.rd t (by simp only [infK]; split <;> (try split) <;> exact ht)
    have e1 := callee_congr (s := s) (u := u) hrd
    have hH : u.H = s.H := ha.he (by simp only [infK]; split <;> (try split) <;> simp)
    have e2 : infK E.pw u (.call g args) = infK E.pw s (.call g args) := by simp only [infK, e1, hH]
    have hwt : (infK E.pw s (.call g args)).wt = [] ∧ (infK E.pw s (.call g args)).gn = false ∧ (infK E.pw s (.call g args)).he ≠ 0 := by simp only [infK]; split <;> (try split) <;> simp
    unfold stepC at h ⊢
    rw [e1]
    cases hc : callee s (.call g args) with
    | none => rw [hc] at h; simp only [stepK] at h; cases h
    | some p =>
      obtain ⟨f', vs⟩ := p
      rw [hc] at h
      dsimp only at h ⊢
      rw [hH]
      generalize ev (if true = true then m.drawn E.pw s.H f' vs else m) f' vs s.H = res at h ⊢
      cases res with
      | none => cases h
      | some p =>
        obtain ⟨r, H⟩ := p
        cases h
        exact ⟨_, rfl, e2, ⟨fun x hx => (by rw [hwt.1] at hx; cases hx), fun x _ => rfl, by rw [hwt.2.1]; rfl, by rw [if_neg hwt.2.2]⟩⟩
  | callV x args =>
    have hrd : ∀ t ∈ (CK.callV x args).ops.flatMap xs1, u.ρ t = s.ρ t := fun t ht => ha.rd t (by simp only [infK]; split <;> (try split) <;> exact ht)
    have e1 := callee_congr (s := s) (u := u) hrd
    have hH : u.H = s.H := ha.he (by simp only [infK]; split <;> (try split) <;> simp)
    have e2 : infK E.pw u (.callV x args) = infK E.pw s (.callV x args) := by simp only [infK, e1, hH]
    have hwt : (infK E.pw s (.callV x args)).wt = [] ∧ (infK E.pw s (.callV x args)).gn = false ∧ (infK E.pw s (.callV x args)).he ≠ 0 := by simp only [infK]; split <;> (try split) <;> simp
    unfold stepC at h ⊢
    rw [e1]
    cases hc : callee s (.callV x args) with
    | none => rw [hc] at h; simp only [stepK] at h; cases h
    | some p =>
      obtain ⟨f', vs⟩ := p
      rw [hc] at h
      dsimp only at h ⊢
      rw [hH]
      generalize ev (if true = true then m.drawn E.pw s.H f' vs else m) f' vs s.H = res at h ⊢
      cases res with
      | none => cases h
      | some p =>
        obtain ⟨r, H⟩ := p
        cases h
        exact ⟨_, rfl, e2, ⟨fun x hx => (by rw [hwt.1] at hx; cases hx), fun x _ => rfl, by rw [hwt.2.1]; rfl, by rw [if_neg hwt.2.2]⟩⟩
  | _ => simp [CK.plain] at hp

end
end Go.Proofs.Ytdplmjlbkaipiaa.Ev
