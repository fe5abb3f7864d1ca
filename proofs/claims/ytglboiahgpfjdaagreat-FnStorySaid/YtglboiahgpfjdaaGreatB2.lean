/- Texts of the proof, laid one behind the other. -/
import Derived.Test.YtglboiahgpfjdaaGreatB1
import Derived.LoopN
import Derived.ChangeSame
import Derived.ChangeShapes
import Derived.WideShapes
import Derived.Carry
import Derived.Sort.Grow
namespace Go.Proofs.YtglboiahgpfjdaaGreat.Ev
set_option linter.all false
set_option maxRecDepth 4000
open Go
structure Kp (m : Md) (H H' : Hp) : Prop where
 len : H.length ≤ H'.length
 wr : ∀ id, m.wr id = false → id < H.length → H'[id]? = H[id]?
 nr : m.nr = true → ∀ (id : Nat) (o' : List Value), id < H.length → H'[id]? = some o' → ∃ o, H[id]? = some o ∧ ∀ v ∈ o', scal v = true ∨ v ∈ o
theorem Kp.refl (m : Md) (H : Hp) : Kp m H H := ⟨Nat.le_refl _, fun _ _ _ => rfl, fun _ _ o' _ h => ⟨o', h, fun _ hv => .inr hv⟩⟩
theorem Kp.trans {m : Md} {H H' H'' : Hp} (h : Kp m H H') (k : Kp m H' H'') : Kp m H H'' := by
 refine ⟨C8 h.len k.len, fun id h1 h2 => (k.wr id h1 (J3 h2 h.len)).trans (h.wr id h1 h2), fun hn id o'' hl ho => ?_⟩
 obtain ⟨o', ho', h1⟩ := k.nr hn id o'' (J3 hl h.len) ho
 obtain ⟨o, ho1, h2⟩ := h.nr hn id o' hl ho'
 refine ⟨o, ho1, fun v hv => ?_⟩
 rcases h1 v hv with h3 | h3
 ·exact .inl h3
 ·exact h2 v h3
theorem Kp.push (m : Md) (H : Hp) (x : List Value) : Kp m H (H ++ [x]) := by
 refine ⟨by simp, fun id _ h => List.getElem?_append_left h, fun _ id o' hl ho => ?_⟩
 rw [List.getElem?_append_left hl] at ho
 exact ⟨o', ho, fun _ hv => .inr hv⟩
theorem dM : ∀ {vs o : List Value} {i : Nat} {v : Value}, v ∈ spl o i vs → v ∈ vs ∨ v ∈ o := fun {vs o i v} h => by
 obtain ⟨j, hj⟩ := List.getElem?_of_mem h
 rw [Ec] at hj
 split at hj
 ·split at hj
  ·exact .inl (List.mem_of_getElem? hj)
  ·cases hj
 ·exact .inr (List.mem_of_getElem? hj)
theorem Kp.set {m : Md} {H : Hp} {id : Nat} {o o' : List Value} (ho : H[id]? = some o) (hw : m.wr id = true) (hn : m.nr = true → ∀ v ∈ o', scal v = true ∨ v ∈ o) : Kp m H (H.set id o') := by
 refine ⟨by simp, fun id2 h1 h2 => ?_, fun h id2 o2 hl ho2 => ?_⟩
 ·rw [List.getElem?_set_ne]
  intro e
  rw [e, h1] at hw
  cases hw
 ·by_cases e : id = id2
  ·subst e
   have : o' = o2 := by simpa [hl] using ho2
   subst this
   exact ⟨o, ho, hn h⟩
  ·rw [List.getElem?_set_ne e] at ho2
   exact ⟨o2, ho2, fun _ hv => .inr hv⟩
theorem Kp.set_spl {m : Md} {H : Hp} {id i : Nat} {o vs : List Value} (ho : H[id]? = some o) (hw : m.wr id = true) (hn : m.nr = true → vs.all scal = true) : Kp m H (H.set id (spl o i vs)) :=
 .set ho hw fun h v hv => by
  rcases dM hv with h1 | h1
  ·exact .inl (List.all_eq_true.1 (hn h) v h1)
  ·exact .inr h1
theorem Vr {m : Md} {s s' : St} {esz bytes : Nat} {x y : X} {f : FV} (h : Ce m s esz bytes x y = some (f, s')) : Kp m s.H s'.H := by
 simp only [Ce] at h
 split at h
 ·split at h
  ·split at h <;> (try simp only [St.val] at h) <;> cases h <;> exact .refl _ _
  ·split at h
   ·split at h <;> cases h; exact .push _ _ _
   ·split at h
    ·rename_i g0
     split at h
     ·rename_i hc
      split at h
      ·cases h; exact .set_spl g0 hc.2.2.1 hc.2.2.2
      ·split at h
       ·cases h
        refine .set g0 hc.2.2.1 fun hn v hv => ?_
        rcases Lh hv with h1 | h1
        ·exact .inr (List.mem_of_mem_take h1)
        ·exact .inl (List.all_eq_true.1 (hc.2.2.2 hn) v h1)
       ·cases h
     ·cases h
    ·cases h
   ·cases h
 ·cases h
theorem bD {m : Md} {s s' : St} {k : CK} {f : FV} (h : Ai m s k = some (f, s')) : Kp m s.H s'.H := by
 have same : s'.H = s.H → Kp m s.H s'.H := fun e => e ▸ Kp.refl m s.H
 have ofv : ∀ {x : Option Value}, Bd s x = some (f, s') → Kp m s.H s'.H := fun {x} e => by
  cases x <;> simp only [Bd] at e <;> cases e
  exact .refl _ _
 cases k with
 | mov x => simp only [Ai, Ka] at h; split at h <;> cases h; exact .refl _ _
 | pick c a b => simp only [Ai, Gc] at h; split at h <;> (try simp only [St.val] at h) <;> cases h; exact .refl _ _
 | bin op x y => simp only [Ai, J4] at h; split at h; exact ofv h; cases h
 | beq neg x y => simp only [Ai, J8] at h; split at h <;> (try simp only [St.val] at h) <;> cases h; exact .refl _ _
 | aeq neg ks x y =>
  simp only [Ai, J6] at h
  split at h
  ·split at h <;> (try simp only [St.val] at h) <;> cases h; exact .refl _ _
  ·cases h
 | un op x => simp only [Ai, Ub] at h; split at h; exact ofv h; cases h
 | toInt k x => simp only [Ai, D4] at h; split at h <;> (try simp only [St.val] at h) <;> cases h; exact .refl _ _
 | str x => simp only [Ai, Ke] at h; split at h <;> (try simp only [St.val] at h) <;> cases h; exact .refl _ _
 | s2b e x => simp only [Ai, Xu] at h; split at h <;> cases h; exact .push _ _ _
 | b2s x =>
  simp only [Ai, Vd] at h
  split at h
  ·split at h <;> (try simp only [St.val] at h) <;> cases h; exact .refl _ _
  ·cases h
 | fld off n agg x =>
  simp only [Ai, Y2] at h
  split at h
  ·split at h
   ·simp only [St.val] at h; cases h; exact .refl _ _
   ·exact ofv h
  ·cases h
 | idx x i =>
  simp only [Ai, Ky] at h
  split at h
  ·split at h
   ·split at h <;> (try simp only [St.val] at h) <;> cases h; exact .refl _ _
   ·cases h
  ·cases h
 | idxA n x i =>
  simp only [Ai, O3] at h
  split at h
  ·split at h
   ·exact ofv h
   ·cases h
  ·cases h
 | build zero parts =>
  simp only [Ai, B5] at h
  split at h
  ·split at h <;> (try simp only [St.val] at h) <;> cases h; exact .refl _ _
  ·cases h
 | ext x i => simp only [Ai, Kd] at h; split at h; exact ofv h; cases h
 | fadr off x =>
  simp only [Ai, Ge] at h
  split at h
  ·split at h <;> cases h; exact .refl _ _
  ·cases h
 | iadr esz x i =>
  simp only [Ai, B4] at h
  split at h
  ·split at h <;> cases h; exact .refl _ _
  ·cases h
 | iadrA len esz x i =>
  simp only [Ai, Kl] at h
  split at h
  ·split at h <;> cases h; exact .refl _ _
  ·cases h
 | load n agg x =>
  simp only [Ai, Fe] at h
  split at h
  ·split at h
   ·split at h
    ·split at h <;> (try simp only [St.val] at h) <;> cases h; exact .refl _ _
    ·exact ofv h
   ·cases h
  ·cases h
 | store n x v =>
  simp only [Ai, D6] at h
  split at h
  ·split at h
   ·rename_i hr
    split at h
    ·split at h
     ·split at h
      ·rename_i hw
       cases h
       simp only [B6] at hr
       split at hr
       ·rename_i g0
        split at hr
        ·cases hr; exact .set_spl g0 hw.1 hw.2
        ·cases hr
       ·cases hr
      ·cases h
     ·cases h; exact .refl _ _
    ·cases h
   ·cases h
  ·cases h
 | newV zero => simp only [Ai, Eh] at h; cases h; exact .refl _ _
 | newD t zero => simp only [Ai, Qn] at h; split at h <;> cases h; exact .refl _ _
 | newO zero => simp only [Ai, D3] at h; cases h; exact .push _ _ _
 | boxV x => simp only [Ai, F9, Eh] at h; split at h <;> cases h; exact .refl _ _
 | boxO x => simp only [Ai, Fy, D3] at h; split at h <;> cases h; exact .push _ _ _
 | mkV len esz zero parts => simp only [Ai, J5] at h; split at h <;> cases h; exact .refl _ _
 | mkO len esz zero parts => simp only [Ai, I2] at h; split at h <;> cases h; exact .push _ _ _
 | makeS esz bytes zero l c =>
  simp only [Ai, Ms] at h
  split at h
  ·split at h <;> cases h; exact .push _ _ _
  ·cases h
 | slc esz x lo hi =>
  simp only [Ai, Ih] at h
  split at h
  ·split at h
   ·split at h <;> (try simp only [St.val] at h) <;> cases h; exact .refl _ _
   ·cases h
  ·split at h
   ·split at h <;> (try simp only [St.val] at h) <;> cases h; exact .refl _ _
   ·cases h
  ·cases h
 | slc3 esz x lo hi mx =>
  simp only [Ai, Tm] at h
  split at h
  ·split at h
   ·split at h <;> (try simp only [St.val] at h) <;> cases h; exact .refl _ _
   ·cases h
  ·split at h
   ·split at h <;> (try simp only [St.val] at h) <;> cases h; exact .refl _ _
   ·cases h
  ·cases h
 | slcS x lo hi =>
  simp only [Ai, C2] at h
  split at h
  ·split at h
   ·split at h <;> (try simp only [St.val] at h) <;> cases h; exact .refl _ _
   ·cases h
  ·cases h
 | lenS x => simp only [Ai, Lm] at h; split at h <;> (try simp only [St.val] at h) <;> cases h <;> exact .refl _ _
 | lenT x => simp only [Ai, Cn] at h; split at h <;> (try simp only [St.val] at h) <;> cases h; exact .refl _ _
 | mx x y => simp only [Ai, pN] at h; split at h <;> (try simp only [St.val] at h) <;> cases h; exact .refl _ _
 | mn x y => simp only [Ai, qJ] at h; split at h <;> (try simp only [St.val] at h) <;> cases h; exact .refl _ _
 | app esz bytes x y => exact Vr h
 | cpy esz x y =>
  simp only [Ai, U4] at h
  split at h
  ·simp only [St.val] at h; cases h; exact .refl _ _
  ·split at h
   ·rename_i g0
    split at h
    ·rename_i hc
     cases h
     refine .set_spl g0 hc.2.2.1 fun hn => ?_
     rw [List.all_eq_true]
     intro v hv
     exact List.all_eq_true.1 (hc.2.2.2.1 hn) v (List.mem_of_mem_take hv)
    ·cases h
   ·cases h
  ·cases h
 | clr esz zero x =>
  simp only [Ai, Pi] at h
  split at h
  ·simp only [St.val] at h; cases h; exact .refl _ _
  ·split at h
   ·rename_i g0
    split at h
    ·rename_i hc
     cases h
     exact .set_spl g0 hc.2.2.1 fun _ => Dc hc.2.2.2.1
    ·cases h
   ·cases h
  ·cases h
 | call g args => simp [Ai] at h
 | callV x args => simp [Ai] at h
 | fn g caps => simp only [Ai, Uf] at h; split at h <;> (try simp only [St.val] at h) <;> cases h; exact .refl _ _
 | makeV esz bytes zero l c =>
  simp only [Ai, Mw] at h
  split at h
  ·split at h
   ·cases h; exact .refl _ _
   ·cases h
  ·cases h
 | appP esz bytes t y =>
  simp only [Ai, Kj] at h
  split at h
  ·rename_i s1 hs1
   obtain ⟨n, cs, _, _, rfl⟩ := Lb hs1
   exact (Kp.push m s.H cs).trans (Vr h)
  ·cases h
 | buildP t esz zero parts =>
  simp only [Ai, Ma] at h
  split at h
  ·rename_i s1 hs1
   obtain ⟨n, cs, _, _, rfl⟩ := Lb hs1
   refine (Kp.push m s.H cs).trans ?_
   simp only [B5] at h
   split at h
   ·split at h <;> (try simp only [St.val] at h) <;> cases h; exact .refl _ _
   ·cases h
  ·cases h
 | pureC g args =>
  simp only [Ai, Qj] at h
  split at h
  ·split at h
   ·simp only [St.val] at h; cases h; exact .refl _ _
   ·cases h
  ·cases h
 | nilc x => simp only [Ai, Gd] at h; split at h <;> (try simp only [St.val] at h) <;> cases h <;> exact .refl _ _
def U5 (E : Hb) : Prop := ∀ f p, E.prim f = some p → ∀ m vs H r H', p m vs H = some (r, H') → Kp m H H'
theorem Y9 {m : Md} {pw : Nat → Bool} {H H' : Hp} {f : Nat} {vs : List Value} (h : Kp (m.drawn pw H f vs) H H') : Kp m H H' :=
 ⟨h.len, fun id h1 h2 => h.wr id (by simp [Md.drawn, h1]; omega) h2, h.nr⟩
abbrev Xd := Md → Nat → List Value → Hp → Option (Value × Hp)
def Ng (ev : Xd) : Prop := ∀ m f vs H r H', ev m f vs H = some (r, H') → Kp m H H'
theorem Zs {E : Hb} {m : Md} {draw : Bool} {ev : Xd} (hev : Ng ev) {s s' : St} {k : CK} {f : FV} (h : Bp E m draw ev s k = some (f, s')) : Kp m s.H s'.H := by
 unfold Bp at h
 split at h
 ·split at h
  ·rename_i r H he
   cases h
   cases draw with
   | false => exact hev _ _ _ _ _ _ he
   | true => exact Y9 (hev _ _ _ _ _ _ he)
  ·cases h
 ·exact bD h
theorem Ox {E : Hb} {m : Md} {draw : Bool} {ev : Xd} (hev : Ng ev) {s s' : St} {o : CO} (h : C3 E m draw ev s o = some s') : Kp m s.H s'.H := by
 unfold C3 at h
 split at h
 ·split at h
  ·rename_i v s1 hs
   cases h
   show Kp m s.H s1.H
   exact Zs hev hs
  ·cases h
 ·cases h; exact .refl _ _
 ·cases h
theorem Wn {E : Hb} {m : Md} {draw : Bool} {ev : Xd} (hev : Ng ev) : ∀ {ops : List CO} {s s' : St}, Gh E m draw ev ops s = some s' → Kp m s.H s'.H
 | [], s, s', h => by simp only [Gh] at h; cases h; exact .refl _ _
 | o :: os, s, s', h => by
  simp only [Gh] at h
  split at h
  ·rename_i s1 hs
   exact (Ox hev hs).trans (Wn hev h)
  ·cases h
theorem Z5 {E : Hb} (hp : U5 E) : ∀ k, Ng (K4 E k) ∧ ∀ m c s e s', Du E k m c s = some (e, s') → Kp m s.H s'.H
 | 0 => ⟨fun m f vs H r H' h => by simp [K4] at h, fun m c s e s' h => by simp [Du] at h⟩
 | k + 1 => by
  obtain ⟨i1, i2⟩ := Z5 hp k
  refine ⟨fun m f vs H r H' h => ?_, fun m c s e s' h => ?_⟩
  ·simp only [K4] at h
   split at h
   ·rename_i p hpf
    exact hp f p hpf m vs H r H' h
   ·split at h
    ·cases h
    ·split at h
     ·split at h
      ·cases h
      ·rename_i e s hne he
       have hk := i2 _ _ _ _ _ he
       have hk' : Kp m H s.H := ⟨hk.len, hk.wr, fun hn => hk.nr (by simp [hn])⟩
       split at h
       ·rename_i v hv
        split at h
        ·split at h
         ·cases h
          refine ⟨?_, fun id h1 h2 => ?_, fun hn id o' hl ho => ?_⟩
          ·have := hk.len
           simp only at this
           rw [List.length_take]
           omega
          ·rw [List.getElem?_take, if_pos h2]; exact hk'.wr id h1 h2
          ·rw [List.getElem?_take, if_pos hl] at ho; exact hk'.nr hn id o' hl ho
         ·cases h
        ·cases h; exact hk'
       ·cases h
      ·cases h
     ·cases h
  ·cases c with
   | skip => simp only [Du] at h; cases h; exact .refl _ _
   | exit id => simp only [Du] at h; cases h; exact .refl _ _
   | ret => simp only [Du] at h; cases h; exact .refl _ _
   | reg draw ops =>
    simp only [Du] at h
    split at h
    ·cases h
    ·split at h
     ·rename_i s1 hs
      cases h
      exact Wn i1 hs
     ·cases h
   | seq a b =>
    simp only [Du] at h
    split at h
    ·rename_i s1 hs
     exact (i2 _ _ _ _ _ hs).trans (i2 _ _ _ _ _ h)
    ·exact i2 _ _ _ _ _ h
   | cond c a b =>
    simp only [Du] at h
    split at h
    ·exact i2 _ _ _ _ _ h
    ·exact i2 _ _ _ _ _ h
    ·cases h
   | block id c =>
    simp only [Du] at h
    split at h
    ·rename_i j s1 hs
     split at h <;> cases h <;> exact i2 _ _ _ _ _ hs
    ·exact i2 _ _ _ _ _ h
   | loop c =>
    simp only [Du] at h
    split at h
    ·rename_i s1 hs
     exact (i2 _ _ _ _ _ hs).trans (i2 _ _ _ _ _ h)
    ·exact i2 _ _ _ _ _ h
theorem G4 {ρ ρ' : Nat → FV} {x : X} (h : ∀ t ∈ F4 x, ρ' t = ρ t) : ex ρ' x = ex ρ x := by
 cases x with
 | t n => exact h n (by simp [F4])
 | c v => rfl
 | f n => rfl
theorem Am {ρ ρ' : Nat → FV} {x : X} (h : ∀ t ∈ F4 x, ρ' t = ρ t) : Av ρ' x = Av ρ x := by
 unfold Av; rw [G4 h]
theorem Mf {ρ ρ' : Nat → FV} {x : X} (h : ∀ t ∈ F4 x, ρ' t = ρ t) : Nm ρ' x = Nm ρ x := by
 unfold Nm; rw [Am h]
theorem Jp {ρ ρ' : Nat → FV} {x : X} (h : ∀ t ∈ F4 x, ρ' t = ρ t) : Jz ρ' x = Jz ρ x := by
 cases x with
 | t n => simp only [Jz, h n (by simp [F4])]
 | c v => rfl
 | f n => rfl
theorem Gz {ρ ρ' : Nat → FV} : ∀ {xs : List X}, (∀ t ∈ xs.flatMap F4, ρ' t = ρ t) → Dw ρ' xs = Dw ρ xs
 | [], _ => rfl
 | x :: xs, h => by
  simp only [Dw]
  rw [Am (fun t ht => h t (by simp [ht])), Gz (fun t ht => h t (by rw [List.flatMap_cons]; exact List.mem_append_right _ ht))]
theorem Gx {ρ ρ' : Nat → FV} : ∀ {xs : List (Nat × Nat × X)}, (∀ t ∈ (xs.map fun p => p.2.2).flatMap F4, ρ' t = ρ t) → Fb ρ' xs = Fb ρ xs
 | [], _ => rfl
 | (o, n, x) :: xs, h => by
  simp only [Fb]
  rw [Am (fun t ht => h t (by simp [ht])), Gx (fun t ht => h t (by rw [List.map_cons, List.flatMap_cons]; exact List.mem_append_right _ ht))]
theorem Jx {ρ ρ' : Nat → FV} {d : Int} {x : Option X} (h : ∀ t ∈ x.toList.flatMap F4, ρ' t = ρ t) : J7 ρ' d x = J7 ρ d x := by
 cases x with
 | none => rfl
 | some x => simp only [J7]; rw [Am fun t ht => h t (by simpa using ht)]
def CK.plain : CK → Bool
 | .mov _ | .pick .. | .bin .. | .beq .. | .aeq .. | .un .. | .toInt .. | .str _ | .fld .. | .idx .. | .idxA .. | .build .. | .ext .. | .iadr .. | .slc .. | .slc3 .. | .slcS .. | .lenS _ | .lenT _ | .mx .. | .mn .. | .fn .. | .nilc _ | .mkV .. | .pureC .. | .makeV .. => true
 | _ => false
theorem W9 {m : Md} {s u s' : St} {k : CK} {f : FV} (hk : k.plain = true) (h : Ai m s k = some (f, s')) (hr : ∀ t ∈ k.ops.flatMap F4, u.ρ t = s.ρ t) : s' = s ∧ Ai m u k = some (f, u) := by
 cases k with
 | mov x =>
  have e := G4 (x := x) fun t ht => hr t (by simp [CK.ops, ht])
  simp only [Ai, Ka, e] at h ⊢
  split at h
  ·rename_i f' hf; cases h; exact ⟨rfl, by first | rfl | (simp [St.val, Bd, *]; done)⟩
  ·cases h
 | pick c a b =>
  have e1 := Am (x := c) fun t ht => hr t (by simp [CK.ops, ht])
  have e2 := Am (x := a) fun t ht => hr t (by simp [CK.ops, ht])
  have e3 := Am (x := b) fun t ht => hr t (by simp [CK.ops, ht])
  simp only [Ai, Gc, e1, e2, e3] at h ⊢
  split at h
  ·simp only [St.val] at h; cases h; exact ⟨rfl, by first | rfl | (simp [St.val, Bd, *]; done)⟩
  ·cases h
 | bin op x y =>
  have e1 := Am (x := x) fun t ht => hr t (by simp [CK.ops, ht])
  have e2 := Am (x := y) fun t ht => hr t (by simp [CK.ops, ht])
  simp only [Ai, J4, e1, e2] at h ⊢
  split at h
  ·rename_i p q _ _
   cases hb : Hc op p q <;> simp only [Bd, hb] at h ⊢ <;> cases h
   exact ⟨rfl, by first | rfl | (simp [St.val, Bd, *]; done)⟩
  ·cases h
 | beq neg x y =>
  have e1 := Am (x := x) fun t ht => hr t (by simp [CK.ops, ht])
  have e2 := Am (x := y) fun t ht => hr t (by simp [CK.ops, ht])
  simp only [Ai, J8, e1, e2] at h ⊢
  split at h
  ·simp only [St.val] at h; cases h; exact ⟨rfl, by first | rfl | (simp [St.val, Bd, *]; done)⟩
  ·cases h
 | aeq neg ks x y =>
  have e1 := Am (x := x) fun t ht => hr t (by simp [CK.ops, ht])
  have e2 := Am (x := y) fun t ht => hr t (by simp [CK.ops, ht])
  simp only [Ai, J6, e1, e2] at h ⊢
  split at h
  ·split at h
   ·simp only [St.val] at h; cases h; exact ⟨rfl, by first | rfl | (simp [St.val, Bd, *]; done)⟩
   ·cases h
  ·cases h
 | un op x =>
  have e1 := Am (x := x) fun t ht => hr t (by simp [CK.ops, ht])
  simp only [Ai, Ub, e1] at h ⊢
  split at h
  ·rename_i p _
   cases hb : Ui op p <;> simp only [Bd, hb] at h ⊢ <;> cases h
   exact ⟨rfl, by first | rfl | (simp [St.val, Bd, *]; done)⟩
  ·cases h
 | toInt kk x =>
  have e1 := Am (x := x) fun t ht => hr t (by simp [CK.ops, ht])
  simp only [Ai, D4, e1] at h ⊢
  split at h
  ·simp only [St.val] at h; cases h; exact ⟨rfl, by first | rfl | (simp [St.val, Bd, *]; done)⟩
  ·cases h
 | str x =>
  have e1 := Am (x := x) fun t ht => hr t (by simp [CK.ops, ht])
  simp only [Ai, Ke, e1] at h ⊢
  split at h
  ·simp only [St.val] at h; cases h; exact ⟨rfl, by first | rfl | (simp [St.val, Bd, *]; done)⟩
  ·cases h
 | fld off n agg x =>
  have e1 := Am (x := x) fun t ht => hr t (by simp [CK.ops, ht])
  simp only [Ai, Y2, e1] at h ⊢
  split at h
  ·rename_i cs _
   split at h
   ·simp only [St.val] at h; cases h; exact ⟨rfl, by first | rfl | (simp [St.val, Bd, *]; done)⟩
   ·cases hb : cs[off]? <;> simp only [Bd, hb] at h ⊢ <;> cases h
    exact ⟨rfl, by first | rfl | (simp [St.val, Bd, *]; done)⟩
  ·cases h
 | idxA n x i =>
  have e1 := Am (x := x) fun t ht => hr t (by simp [CK.ops, ht])
  have e2 := Am (x := i) fun t ht => hr t (by simp [CK.ops, ht])
  simp only [Ai, O3, e1, e2] at h ⊢
  split at h
  ·rename_i cs k z _ _
   split at h
   ·rename_i hz
    rw [if_pos hz]
    cases hb : cs[z.toNat]? <;> simp only [Bd, hb] at h ⊢ <;> cases h
    exact ⟨rfl, by first | rfl | (simp [St.val, Bd, *]; done)⟩
   ·cases h
  ·cases h
 | idx x i =>
  have e1 := Am (x := x) fun t ht => hr t (by simp [CK.ops, ht])
  have e2 := Am (x := i) fun t ht => hr t (by simp [CK.ops, ht])
  simp only [Ai, Ky, e1, e2] at h ⊢
  split at h
  ·split at h
   ·split at h
    ·simp only [St.val] at h; cases h; exact ⟨rfl, by first | rfl | (simp [St.val, Bd, *]; done)⟩
    ·cases h
   ·cases h
  ·cases h
 | build zero parts =>
  have e1 := Gx (xs := parts) fun t ht => hr t (by simpa [CK.ops] using ht)
  simp only [Ai, B5, e1] at h ⊢
  split at h
  ·split at h
   ·simp only [St.val] at h; cases h; exact ⟨rfl, by first | rfl | (simp [St.val, Bd, *]; done)⟩
   ·cases h
  ·cases h
 | ext x i =>
  have e1 := Am (x := x) fun t ht => hr t (by simp [CK.ops, ht])
  simp only [Ai, Kd, e1] at h ⊢
  split at h
  ·rename_i vs _
   cases hb : vs[i]? <;> simp only [Bd, hb] at h ⊢ <;> cases h
   exact ⟨rfl, by first | rfl | (simp [St.val, Bd, *]; done)⟩
  ·cases h
 | iadr esz x i =>
  have e1 := Am (x := x) fun t ht => hr t (by simp [CK.ops, ht])
  have e2 := Am (x := i) fun t ht => hr t (by simp [CK.ops, ht])
  simp only [Ai, B4, e1, e2] at h ⊢
  split at h
  ·split at h
   ·rename_i hc; cases h; exact ⟨rfl, by first | rfl | (simp [St.val, Bd, *]; done)⟩
   ·cases h
  ·cases h
 | slc esz x lo hi =>
  have e1 := Am (x := x) fun t ht => hr t (by simp [CK.ops, ht])
  have e2 : ∀ d, J7 u.ρ d lo = J7 s.ρ d lo := fun d => Jx (x := lo) fun t ht => hr t (by simp only [CK.ops, List.flatMap_cons, List.flatMap_append, List.mem_append]; exact .inr (.inl ht))
  have e3 : ∀ d, J7 u.ρ d hi = J7 s.ρ d hi := fun d => Jx (x := hi) fun t ht => hr t (by simp only [CK.ops, List.flatMap_cons, List.flatMap_append, List.mem_append]; exact .inr (.inr ht))
  simp only [Ai, Ih, e1, e2, e3] at h ⊢
  split at h
  ·split at h
   ·split at h
    ·simp only [St.val] at h; cases h; exact ⟨rfl, by first | rfl | (simp [St.val, Bd, *]; done)⟩
    ·cases h
   ·cases h
  ·split at h
   ·split at h
    ·rename_i hc; simp only [St.val] at h; cases h; exact ⟨rfl, by first | rfl | (simp [St.val, Bd, *]; done)⟩
    ·cases h
   ·cases h
  ·cases h
 | slc3 esz x lo hi mx =>
  have e1 := Am (x := x) fun t ht => hr t (by simp [CK.ops, ht])
  have e2 := Am (x := lo) fun t ht => hr t (by simp [CK.ops, ht])
  have e3 := Am (x := hi) fun t ht => hr t (by simp [CK.ops, ht])
  have e4 := Am (x := mx) fun t ht => hr t (by simp [CK.ops, ht])
  simp only [Ai, Tm, e1, e2, e3, e4] at h ⊢
  split at h
  ·split at h
   ·split at h
    ·simp only [St.val] at h; cases h; exact ⟨rfl, by first | rfl | (simp [St.val, Bd, *]; done)⟩
    ·cases h
   ·cases h
  ·split at h
   ·split at h
    ·simp only [St.val] at h; cases h; exact ⟨rfl, by first | rfl | (simp [St.val, Bd, *]; done)⟩
    ·cases h
   ·cases h
  ·cases h
 | slcS x lo hi =>
  have e1 := Am (x := x) fun t ht => hr t (by simp [CK.ops, ht])
  have e2 : ∀ d, J7 u.ρ d lo = J7 s.ρ d lo := fun d => Jx (x := lo) fun t ht => hr t (by simp only [CK.ops, List.flatMap_cons, List.flatMap_append, List.mem_append]; exact .inr (.inl ht))
  have e3 : ∀ d, J7 u.ρ d hi = J7 s.ρ d hi := fun d => Jx (x := hi) fun t ht => hr t (by simp only [CK.ops, List.flatMap_cons, List.flatMap_append, List.mem_append]; exact .inr (.inr ht))
  simp only [Ai, C2, e1, e2, e3] at h ⊢
  split at h
  ·split at h
   ·split at h
    ·rename_i hc; simp only [St.val] at h; cases h; exact ⟨rfl, by first | rfl | (simp [St.val, Bd, *]; done)⟩
    ·cases h
   ·cases h
  ·cases h
 | lenS x =>
  have e1 := Am (x := x) fun t ht => hr t (by simp [CK.ops, ht])
  simp only [Ai, Lm, e1] at h ⊢
  split at h
  ·simp only [St.val] at h; cases h; exact ⟨rfl, by first | rfl | (simp [St.val, Bd, *]; done)⟩
  ·simp only [St.val] at h; cases h; exact ⟨rfl, by first | rfl | (simp [St.val, Bd, *]; done)⟩
  ·cases h
 | lenT x =>
  have e1 := Am (x := x) fun t ht => hr t (by simp [CK.ops, ht])
  simp only [Ai, Cn, e1] at h ⊢
  split at h
  ·simp only [St.val] at h; cases h; exact ⟨rfl, by first | rfl | (simp [St.val, Bd, *]; done)⟩
  ·cases h
 | mx x y =>
  have e1 := Am (x := x) fun t ht => hr t (by simp [CK.ops, ht])
  have e2 := Am (x := y) fun t ht => hr t (by simp [CK.ops, ht])
  simp only [Ai, pN, e1, e2] at h ⊢
  split at h
  ·simp only [St.val] at h; cases h; exact ⟨rfl, by first | rfl | (simp [St.val, Bd, *]; done)⟩
  ·cases h
 | mn x y =>
  have e1 := Am (x := x) fun t ht => hr t (by simp [CK.ops, ht])
  have e2 := Am (x := y) fun t ht => hr t (by simp [CK.ops, ht])
  simp only [Ai, qJ, e1, e2] at h ⊢
  split at h
  ·simp only [St.val] at h; cases h; exact ⟨rfl, by first | rfl | (simp [St.val, Bd, *]; done)⟩
  ·cases h
 | fn g caps =>
  have e1 := Gz (xs := caps) fun t ht => hr t (by simpa [CK.ops] using ht)
  simp only [Ai, Uf, e1] at h ⊢
  split at h
  ·simp only [St.val] at h; cases h; exact ⟨rfl, by first | rfl | (simp [St.val, Bd, *]; done)⟩
  ·cases h
 | makeV esz bytes zero l c =>
  have e1 := Am (x := l) fun t ht => hr t (by simp [CK.ops, ht])
  have e2 := Am (x := c) fun t ht => hr t (by simp [CK.ops, ht])
  simp only [Ai, Mw, e1, e2] at h ⊢
  split at h
  ·split at h
   ·rename_i hc
    cases h
    exact ⟨rfl, by rw [if_pos hc]⟩
   ·cases h
  ·cases h
 | pureC g args =>
  have e1 := Gz (xs := args) fun t ht => hr t (by simpa [CK.ops] using ht)
  simp only [Ai, Qj, e1] at h ⊢
  split at h
  ·split at h
   ·simp only [St.val] at h; cases h; exact ⟨rfl, by first | rfl | (simp [St.val, Bd, *]; done)⟩
   ·cases h
  ·cases h
 | nilc x =>
  have e1 := G4 (x := x) fun t ht => hr t (by simp [CK.ops, ht])
  simp only [Ai, Gd, e1] at h ⊢
  split at h
  ·simp only [St.val] at h; cases h; exact ⟨rfl, by first | rfl | (simp [St.val, Bd, *]; done)⟩
  ·simp only [St.val] at h; cases h; exact ⟨rfl, by first | rfl | (simp [St.val, Bd, *]; done)⟩
  ·cases h
 | mkV len esz zero parts =>
  have e1 := Gx (xs := parts.map fun p => (p.1 * esz, esz, p.2)) (ρ := s.ρ) (ρ' := u.ρ) fun t ht => hr t (by simpa [CK.ops, List.map_map, Function.comp_def] using ht)
  simp only [Ai, J5, B8, e1] at h ⊢
  split at h
  ·rename_i cs hcs; cases h; exact ⟨rfl, by first | rfl | (simp [St.val, Bd, *]; done)⟩
  ·cases h
 | _ => simp [CK.plain] at hk
structure nQ (i : K3) (s u : St) : Prop where
 rd : ∀ x ∈ i.rd, u.ρ x = s.ρ x
 gn : i.gn = true → u.gn = s.gn
 he : i.he ≠ 0 → u.H = s.H
 hr : ∀ id ∈ i.hr, u.H[id]? = s.H[id]?
structure oP (i : K3) (t u t' : St) : Prop where
 wt : ∀ x ∈ i.wt, t'.ρ x = t.ρ x
 ot : ∀ x, x ∉ i.wt → t'.ρ x = u.ρ x
 gn : t'.gn = if i.gn = true then t.gn else u.gn
 H : t'.H = if i.he = 0 then u.H else t.H
section
variable {E : Hb} {m : Md} {ev : Xd}
theorem Ti {s u : St} {ρx : X} {ad : Ad} (ha : Jz s.ρ ρx = some ad) (h1 : ∀ t ∈ (Bv s.ρ ρx).1, u.ρ t = s.ρ t) (h2 : ∀ id ∈ (Bv s.ρ ρx).2, u.H[id]? = s.H[id]?) : B6 u ad = B6 s ad := by
 unfold Bv at h1 h2
 rw [ha] at h1 h2
 cases ad with
 | hp id off gen => simp only [B6, h2 id (by simp)]
 | box t g off => simp only [B6, h1 t (by simp)]
theorem Pa {s u : St} {ρx : X} {ad : Ad} (ha : Jz s.ρ ρx = some ad) (h1 : ∀ t ∈ (Bv s.ρ ρx).1, u.ρ t = s.ρ t) : ad.live u.ρ = ad.live s.ρ := by
 unfold Bv at h1
 rw [ha] at h1
 cases ad with
 | hp id off gen => rfl
 | box t g off => simp only [Ad.live, h1 t (by simp)]
theorem Xh {H H' : Hp} {esz : Nat} {f : FV} (h : ∀ id ∈ Un f, H'[id]? = H[id]?) : F8 H' esz f = F8 H esz f := by
 cases f with
 | val v =>
  have hrow : Nc H' v = Nc H v := by
   unfold Nc
   split
   ·rename_i id off e len cap
    rw [h id (by simp [Un, Ae])]
   ·rfl
  unfold F8
  split
  ·rfl
  ·rename_i v' _ he
   cases he
   rw [hrow]
  ·rename_i he; cases he
  ·rfl
 | bx g cs => rfl
 | vp t g off => rfl
 | vs n cs => rfl
 | junk => rfl
theorem N6 {draw : Bool} {s : St} {k : CK} (h : callee s k = none) : Bp E m draw ev s k = Ai m s k := by
 unfold Bp
 rw [h]
theorem Lk {s u : St} {k : CK} (h : ∀ x ∈ k.ops.flatMap F4, u.ρ x = s.ρ x) : callee u k = callee s k := by
 cases k <;> first | rfl | skip
 ·rename_i f args
  simp only [callee]
  rw [Gz fun t ht => h t (by simpa [CK.ops] using ht)]
 ·rename_i x args
  simp only [callee]
  rw [Am (x := x) fun t ht => h t (by simp [CK.ops, ht]), Gz (xs := args) fun t ht => h t (by simp only [CK.ops, List.flatMap_cons, List.mem_append]; exact .inr ht)]
theorem Pu {pw : Nat → Bool} {s : St} {k : CK} (h : k.plain = true) : Aj pw s k = { rd := k.ops.flatMap F4, wt := [], hr := [], he := 0, ha := [] } := by
 cases k <;> first | rfl | (simp [CK.plain] at h)
theorem Lv {s : St} {k : CK} (h : k.plain = true) : callee s k = none := by
 cases k <;> first | rfl | (simp [CK.plain] at h)
theorem Zd {s : St} {uρ : Nat → FV} {ugn : Nat} {esz bytes : Nat} {x y : X} (e1 : Av uρ x = Av s.ρ x) (e2 : ex uρ y = ex s.ρ y) : ∀ r : FV × St, Ce m s esz bytes x y = some r → Ce m ⟨uρ, ugn, s.H⟩ esz bytes x y = some (r.1, ⟨uρ, ugn, r.2.H⟩) := fun r hr => by
 simp only [Ce, e1, e2] at hr ⊢
 split at hr
 ·split at hr
  ·rename_i hn
   rw [if_pos hn]
   split at hr
   ·simp only [St.val] at hr; cases hr; rfl
   ·simp only [St.val] at hr; cases hr; rfl
   ·cases hr
  ·rename_i hn
   rw [if_neg hn]
   split at hr
   ·split at hr
    ·rename_i hc
     cases hr; simp only [if_pos hc]
    ·cases hr
   ·split at hr
    ·rename_i ho
     try simp only [ho]
     split at hr
     ·rename_i hc
      rw [if_pos hc]
      split at hr
      ·rename_i hc2
       cases hr; rw [if_pos hc2]
      ·rename_i hc2
       rw [if_neg hc2]
       split at hr
       ·rename_i hc3
        cases hr; rw [if_pos hc3]
       ·cases hr
     ·cases hr
    ·cases hr
   ·cases hr
 ·cases hr
theorem dI {s : St} {esz bytes : Nat} {x y : X} {r : FV × St} (hr : Ce m s esz bytes x y = some r) : r.2.ρ = s.ρ ∧ r.2.gn = s.gn := by
 simp only [Ce] at hr
 split at hr
 ·split at hr
  ·split at hr <;> (try simp only [St.val] at hr) <;> cases hr <;> exact ⟨rfl, rfl⟩
  ·split at hr
   ·split at hr <;> cases hr <;> exact ⟨rfl, rfl⟩
   ·split at hr
    ·split at hr
     ·split at hr
      ·cases hr; exact ⟨rfl, rfl⟩
      ·split at hr
       ·cases hr; exact ⟨rfl, rfl⟩
       ·cases hr
     ·cases hr
    ·cases hr
   ·cases hr
 ·cases hr
theorem Sh {s u s1 : St} {t esz : Nat} (h : E7 s t esz = some s1) (ht : u.ρ t = s.ρ t) (hH : u.H = s.H) : ∃ v, s1.ρ = Ah s.ρ (some t) v ∧ s1.gn = s.gn ∧ E7 u t esz = some ⟨Ah u.ρ (some t) v, u.gn, s1.H⟩ := by
 obtain ⟨n, cs, h1, h2, rfl⟩ := Lb h
 refine ⟨_, rfl, rfl, ?_⟩
 unfold E7
 rw [ht, h1]
 simp only
 rw [if_pos h2, hH]
theorem Xf {pw : Nat → Bool} (hpw : E.pw = pw) {s t u : St} {k : CK} {f : FV} (h : Bp E m true ev s k = some (f, t)) (ha : nQ (Aj pw s k) s u) :
  ∃ t', Bp E m true ev u k = some (f, t') ∧ Aj pw u k = Aj pw s k ∧ oP (Aj pw s k) t u t' := by
 subst hpw
 by_cases hp : k.plain = true
 ·have e := Pu (pw := E.pw) (s := s) hp
  rw [e] at ha ⊢
  rw [N6 (Lv hp)] at h
  obtain ⟨rfl, h2⟩ := W9 (u := u) hp h ha.rd
  exact ⟨u, by rw [N6 (Lv hp)]; exact h2, Pu hp, ⟨fun x hx => (by cases hx), fun x _ => rfl, rfl, rfl⟩⟩
 cases k with
 | fadr off x =>
  have hr := ha.rd
  simp only [Aj] at hr
  have e1 := Jp (x := x) (ρ := s.ρ) (ρ' := u.ρ) fun t ht => hr t (List.mem_append_left _ (by simp [CK.ops, ht]))
  have e2 : Aj E.pw u (.fadr off x) = Aj E.pw s (.fadr off x) := by simp only [Aj, Bv, e1]
  simp only [Bp, callee, Ai, Ge, e1] at h ⊢
  split at h
  ·rename_i ad had
   have hl := Pa (u := u) had fun t ht => hr t (List.mem_append_right _ ht)
   split at h
   ·rename_i hlive
    cases h
    exact ⟨u, by simp only [had, hl, hlive, if_true], e2, ⟨fun x hx => (by cases hx), fun x _ => rfl, rfl, rfl⟩⟩
   ·cases h
  ·cases h
 | iadrA len esz x i =>
  have hr := ha.rd
  simp only [Aj] at hr
  have e1 := Jp (x := x) (ρ := s.ρ) (ρ' := u.ρ) fun t ht => hr t (List.mem_append_left _ (by simp [CK.ops, ht]))
  have e3 := Am (x := i) (ρ := s.ρ) (ρ' := u.ρ) fun t ht => hr t (List.mem_append_left _ (by simp [CK.ops, ht]))
  have e2 : Aj E.pw u (.iadrA len esz x i) = Aj E.pw s (.iadrA len esz x i) := by simp only [Aj, Bv, e1]
  simp only [Bp, callee, Ai, Kl, e1, e3] at h ⊢
  split at h
  ·rename_i ad _ n had _
   have hl := Pa (u := u) had fun t ht => hr t (List.mem_append_right _ ht)
   split at h
   ·rename_i hc
    cases h
    refine ⟨u, ?_, e2, ⟨fun x hx => (by cases hx), fun x _ => rfl, rfl, rfl⟩⟩
    simp only [*]
    first | rfl | (rw [if_pos (by simp_all)])
   ·cases h
  ·cases h
 | load n agg x =>
  have hr := ha.rd
  have hh := ha.hr
  simp only [Aj] at hr hh
  have e1 := Jp (x := x) (ρ := s.ρ) (ρ' := u.ρ) fun t ht => hr t (List.mem_append_left _ (by simp [CK.ops, ht]))
  have e2 : Aj E.pw u (.load n agg x) = Aj E.pw s (.load n agg x) := by simp only [Aj, Bv, e1]
  simp only [Bp, callee, Ai, Fe, e1] at h ⊢
  cases had : Jz s.ρ x with
  | none => simp only [had] at h; cases h
  | some ad =>
   have hd := Ti (u := u) had (fun t ht => hr t (List.mem_append_right _ ht)) hh
   simp only [had] at h ⊢
   rw [hd]
   cases hde : B6 s ad with
   | none => simp only [hde] at h; cases h
   | some p =>
    obtain ⟨os, off⟩ := p
    simp only [hde] at h ⊢
    refine ⟨u, ?_, e2, ⟨fun x hx => (by cases hx), fun x _ => rfl, rfl, rfl⟩⟩
    split at h
    ·split at h
     ·rename_i hc; simp only [St.val] at h; cases h; first | rfl | (simp [*]; rfl)
     ·cases h
    ·cases hb : os[off]? <;> simp only [Bd, hb] at h ⊢ <;> cases h
     first | rfl | (simp [*])
 | store n x v =>
  have e1 : Jz u.ρ x = Jz s.ρ x := Jp (x := x) fun t ht => ha.rd t (by
   simp only [Aj]
   split
   ·exact List.mem_append_left _ (by simp [CK.ops, ht])
   ·simp [CK.ops, ht])
  have e3 : Nm u.ρ v = Nm s.ρ v := Mf (x := v) fun t ht => ha.rd t (by
   simp only [Aj]
   split
   ·exact List.mem_append_left _ (by simp [CK.ops, ht])
   ·simp [CK.ops, ht])
  have e2 : Aj E.pw u (.store n x v) = Aj E.pw s (.store n x v) := by simp only [Aj, e1]
  simp only [Bp, callee, Ai, D6, e1, e3] at h ⊢
  cases had : Jz s.ρ x with
  | none => simp only [had] at h; cases h
  | some ad =>
   cases hvs : Nm s.ρ v with
   | none => simp only [had, hvs] at h; cases h
   | some vs =>
    simp only [had, hvs] at h ⊢
    cases ad with
    | hp id off gen =>
     have hi : Aj E.pw s (.store n x v) = { rd := (CK.store n x v).ops.flatMap F4, wt := [], hr := [], he := 3, ha := [] } := by simp only [Aj, had]
     have hH : u.H = s.H := ha.he (by rw [hi]; simp)
     have hd : B6 u (.hp id off gen) = B6 s (.hp id off gen) := by simp only [B6, hH]
     rw [hd]
     cases hde : B6 s (.hp id off gen) with
     | none => simp only [hde] at h; cases h
     | some p =>
      obtain ⟨os, off'⟩ := p
      simp only [hde] at h ⊢
      split at h
      ·rename_i hc1
       split at h
       ·rename_i hc2
        cases h
        refine ⟨{ u with H := u.H.set id (spl os off' vs) }, ?_, e2, ?_⟩
        ·simp only [if_pos hc1, if_pos hc2]
        ·rw [hi]
         exact ⟨fun x hx => (by cases hx), fun x _ => rfl, rfl, by simp [hH]⟩
       ·cases h
      ·cases h
    | box t' g off =>
     have hi : Aj E.pw s (.store n x v) = { rd := (CK.store n x v).ops.flatMap F4 ++ [t'], wt := [t'], hr := [], he := 0, ha := [] } := by simp only [Aj, had]
     have ht : u.ρ t' = s.ρ t' := ha.rd t' (by rw [hi]; simp)
     have hd : B6 u (.box t' g off) = B6 s (.box t' g off) := by simp only [B6, ht]
     rw [hd]
     cases hde : B6 s (.box t' g off) with
     | none => simp only [hde] at h; cases h
     | some p =>
      obtain ⟨os, off'⟩ := p
      simp only [hde] at h ⊢
      split at h
      ·rename_i hc1
       cases h
       refine ⟨{ u with ρ := Ah u.ρ (some t') (.bx g (spl os off' vs)) }, ?_, e2, ?_⟩
       ·simp only [if_pos hc1]
       ·rw [hi]
        refine ⟨fun x hx => ?_, fun x hx => ?_, rfl, rfl⟩
        ·have : x = t' := by simpa using hx
         subst this
         simp [Ah]
        ·have : x ≠ t' := by simpa using hx
         simp [Ah, this]
      ·cases h
 | newV zero =>
  have hg : u.gn = s.gn := ha.gn rfl
  simp only [Bp, callee, Ai, Eh] at h ⊢
  cases h
  exact ⟨{ u with gn := u.gn + 1 }, by rw [hg], rfl, ⟨fun x hx => (by cases hx), fun x _ => rfl, by simp [Aj, hg], rfl⟩⟩
 | newD d zero =>
  have hr := ha.rd
  simp only [Aj] at hr
  have e1 : u.ρ d = s.ρ d := hr d (by simp [CK.ops, F4])
  simp only [Bp, callee, Ai, Qn, e1] at h ⊢
  split at h
  ·rename_i hj
   cases h
   exact ⟨u, by simp only [hj], by simp only [Aj], ⟨fun x hx => (by cases hx), fun x _ => rfl, by simp [Aj], rfl⟩⟩
  ·cases h
 | boxV x =>
  have hg : u.gn = s.gn := ha.gn rfl
  have hr := ha.rd
  simp only [Aj] at hr
  have e1 := Mf (x := x) (ρ := s.ρ) (ρ' := u.ρ) fun t ht => hr t (by simp [CK.ops, ht])
  simp only [Bp, callee, Ai, F9, Eh, e1] at h ⊢
  cases hvs : Nm s.ρ x with
  | none => simp only [hvs] at h; cases h
  | some vs =>
   simp only [hvs] at h ⊢
   cases h
   exact ⟨{ u with gn := u.gn + 1 }, by rw [hg], rfl, ⟨fun x hx => (by cases hx), fun x _ => rfl, by simp [Aj, hg], rfl⟩⟩
 | b2s x =>
  have hr := ha.rd
  have hh := ha.hr
  simp only [Aj] at hr hh
  have e1 := G4 (x := x) (ρ := s.ρ) (ρ' := u.ρ) fun t ht => hr t (by simp [CK.ops, ht])
  have e2 : Aj E.pw u (.b2s x) = Aj E.pw s (.b2s x) := by simp only [Aj, e1]
  have e3 := Xh (H := s.H) (H' := u.H) (esz := 1) (f := ex s.ρ x) hh
  simp only [Bp, callee, Ai, Vd, e1, e3] at h ⊢
  split at h
  ·split at h
   ·simp only [St.val] at h; cases h
    exact ⟨u, by first | rfl | (simp [St.val, *]; done), e2, ⟨fun x hx => (by cases hx), fun x _ => rfl, rfl, rfl⟩⟩
   ·cases h
  ·cases h
 | newO zero =>
  have hH : u.H = s.H := ha.he (by simp [Aj])
  simp only [Bp, callee, Ai, D3] at h ⊢
  cases h
  exact ⟨{ u with H := u.H ++ [zero] }, by rw [hH], by simp only [Aj, hH], ⟨fun x hx => (by cases hx), fun x _ => rfl, rfl, by simp [Aj, hH]⟩⟩
 | boxO x =>
  have hH : u.H = s.H := ha.he (by simp [Aj])
  have hr := ha.rd
  simp only [Aj] at hr
  have e1 := Mf (x := x) (ρ := s.ρ) (ρ' := u.ρ) fun t ht => hr t (by simp [CK.ops, ht])
  simp only [Bp, callee, Ai, Fy, D3, e1] at h ⊢
  cases hvs : Nm s.ρ x with
  | none => simp only [hvs] at h; cases h
  | some vs =>
   simp only [hvs] at h ⊢
   cases h
   exact ⟨{ u with H := u.H ++ [vs] }, by rw [hH], by simp only [Aj, hH], ⟨fun x hx => (by cases hx), fun x _ => rfl, rfl, by simp [Aj, hH]⟩⟩
 | mkO len esz zero parts =>
  have hH : u.H = s.H := ha.he (by simp [Aj])
  have hr := ha.rd
  simp only [Aj] at hr
  have e1 := Gx (xs := parts.map fun p => (p.1 * esz, esz, p.2)) (ρ := s.ρ) (ρ' := u.ρ) fun t ht => hr t (by simpa [CK.ops, List.map_map, Function.comp_def] using ht)
  simp only [Bp, callee, Ai, I2, B8, e1] at h ⊢
  split at h
  ·rename_i cs hcs
   cases h
   exact ⟨{ u with H := u.H ++ [cs] }, by simp only [hcs, hH], by simp only [Aj, hH], ⟨fun x hx => (by cases hx), fun x _ => rfl, rfl, by simp [Aj, hH]⟩⟩
  ·cases h
 | makeS esz bytes zero l c =>
  have hH : u.H = s.H := ha.he (by simp [Aj])
  have hr := ha.rd
  simp only [Aj] at hr
  have e1 := Am (x := l) (ρ := s.ρ) (ρ' := u.ρ) fun t ht => hr t (by simp [CK.ops, ht])
  have e2 := Am (x := c) (ρ := s.ρ) (ρ' := u.ρ) fun t ht => hr t (by simp [CK.ops, ht])
  simp only [Bp, callee, Ai, Ms, e1, e2, hH] at h ⊢
  split at h
  ·rename_i l' c' _ _
   split at h
   ·rename_i hc
    cases h
    exact ⟨{ u with H := u.H ++ [Bn c'.toNat zero] }, by simp only [if_pos hc, hH], by simp only [Aj, hH], ⟨fun x hx => (by cases hx), fun x _ => rfl, rfl, by simp [Aj, hH]⟩⟩
   ·cases h
  ·cases h
 | s2b esz x =>
  have hH : u.H = s.H := ha.he (by simp [Aj])
  have hr := ha.rd
  simp only [Aj] at hr
  have e1 := Am (x := x) (ρ := s.ρ) (ρ' := u.ρ) fun t ht => hr t (by simp [CK.ops, ht])
  simp only [Bp, callee, Ai, Xu, e1, hH] at h ⊢
  split at h
  ·rename_i b _
   cases h
   exact ⟨{ u with H := u.H ++ [b.data.toList.map fun c => Value.int .u8 c.toNat] }, by rw [hH], by simp only [Aj, hH], ⟨fun x hx => (by cases hx), fun x _ => rfl, rfl, by simp [Aj, hH]⟩⟩
  ·cases h
 | app esz bytes x y =>
  have hH : u.H = s.H := ha.he (by simp [Aj])
  have hr := ha.rd
  simp only [Aj] at hr
  have e1 := Am (x := x) (ρ := s.ρ) (ρ' := u.ρ) fun t ht => hr t (by simp [CK.ops, ht])
  have e2 := G4 (x := y) (ρ := s.ρ) (ρ' := u.ρ) fun t ht => hr t (by simp [CK.ops, ht])
  obtain ⟨uρ, ugn, uH⟩ := u
  simp only at hH e1 e2
  subst hH
  have key : ∀ r : FV × St, Ce m s esz bytes x y = some r → Ce m ⟨uρ, ugn, s.H⟩ esz bytes x y = some (r.1, ⟨uρ, ugn, r.2.H⟩) := fun r hr => by
   simp only [Ce, e1, e2] at hr ⊢
   split at hr
   ·split at hr
    ·rename_i hn
     rw [if_pos hn]
     split at hr
     ·simp only [St.val] at hr; cases hr; rfl
     ·simp only [St.val] at hr; cases hr; rfl
     ·cases hr
    ·rename_i hn
     rw [if_neg hn]
     split at hr
     ·split at hr
      ·rename_i hc
       cases hr; simp only [if_pos hc]
      ·cases hr
     ·split at hr
      ·rename_i ho
       try simp only [ho]
       split at hr
       ·rename_i hc
        rw [if_pos hc]
        split at hr
        ·rename_i hc2
         cases hr; rw [if_pos hc2]
        ·rename_i hc2
         rw [if_neg hc2]
         split at hr
         ·rename_i hc3
          cases hr; rw [if_pos hc3]
         ·cases hr
       ·cases hr
      ·cases hr
     ·cases hr
   ·cases hr
  exact ⟨_, key _ h, by simp only [Aj, e1], ⟨fun x hx => (by cases hx), fun x _ => rfl, rfl, by simp [Aj]⟩⟩
 | appP esz bytes t1 y =>
  have hH : u.H = s.H := ha.he (by simp [Aj])
  have hr := ha.rd
  simp only [Aj] at hr
  have e0 : u.ρ t1 = s.ρ t1 := hr t1 (by simp [CK.ops, F4])
  simp only [Bp, callee, Ai, Kj] at h ⊢
  cases hp : E7 s t1 esz with
  | none => simp only [hp] at h; cases h
  | some s1 =>
   obtain ⟨v, p1, p2, p3⟩ := Sh (u := u) hp e0 hH
   simp only [hp] at h
   rw [p3]
   simp only
   have e1 : Av (Ah u.ρ (some t1) v) (.t t1) = Av s1.ρ (.t t1) := Am fun x hx => by
    have : x = t1 := by simpa [F4] using hx
    subst this
    rw [p1]; simp [Ah]
   have e2 : ex (Ah u.ρ (some t1) v) y = ex s1.ρ y := G4 fun x hx => by
    rw [p1]
    simp only [Ah]
    split
    ·rfl
    ·exact hr x (by simp only [CK.ops, List.flatMap_cons, List.flatMap_nil, List.append_nil, List.mem_append]; exact .inr hx)
   have hk := Zd (uρ := Ah u.ρ (some t1) v) (ugn := u.gn) e1 e2 _ h
   obtain ⟨k1, k2⟩ := dI h
   refine ⟨_, hk, by simp only [Aj], ⟨fun x hx => ?_, fun x hx => ?_, ?_, by simp [Aj]⟩⟩
   ·have : x = t1 := by simpa [Aj] using hx
    subst this
    show Ah u.ρ (some x) v x = t.ρ x
    rw [show t.ρ = s1.ρ from k1, p1]
    simp [Ah]
   ·have : x ≠ t1 := by simpa [Aj] using hx
    simp [Ah, this]
   ·simp [Aj]
 | buildP t1 esz zero parts =>
  have hH : u.H = s.H := ha.he (by simp [Aj])
  have hr := ha.rd
  simp only [Aj] at hr
  have e0 : u.ρ t1 = s.ρ t1 := hr t1 (by simp [CK.ops, F4])
  simp only [Bp, callee, Ai, Ma] at h ⊢
  cases hp : E7 s t1 esz with
  | none => simp only [hp] at h; cases h
  | some s1 =>
   obtain ⟨v, p1, p2, p3⟩ := Sh (u := u) hp e0 hH
   simp only [hp] at h
   rw [p3]
   simp only
   have e1 : Fb (Ah u.ρ (some t1) v) parts = Fb s1.ρ parts := Gx fun x hx => by
    rw [p1]
    simp only [Ah]
    split
    ·rfl
    ·exact hr x (by simp only [CK.ops, List.flatMap_cons, List.mem_append]; exact .inr hx)
   simp only [B5, e1] at h ⊢
   split at h
   ·rename_i ps hps
    split at h
    ·rename_i cs hcs
     simp only [St.val] at h
     cases h
     refine ⟨⟨Ah u.ρ (some t1) v, u.gn, t.H⟩, by simp only [hps, hcs, St.val], by simp only [Aj], ⟨fun x hx => ?_, fun x hx => ?_, ?_, by simp [Aj]⟩⟩
     ·have : x = t1 := by simpa [Aj] using hx
      subst this
      show Ah u.ρ (some x) v x = t.ρ x
      rw [p1]
      simp [Ah]
     ·have : x ≠ t1 := by simpa [Aj] using hx
      simp [Ah, this]
     ·simp [Aj]
    ·cases h
   ·cases h
 | cpy esz x y =>
  have hH : u.H = s.H := ha.he (by simp [Aj])
  have hr := ha.rd
  simp only [Aj] at hr
  have e1 := Am (x := x) (ρ := s.ρ) (ρ' := u.ρ) fun t ht => hr t (by simp [CK.ops, ht])
  have e2 := G4 (x := y) (ρ := s.ρ) (ρ' := u.ρ) fun t ht => hr t (by simp [CK.ops, ht])
  obtain ⟨uρ, ugn, uH⟩ := u
  simp only at hH e1 e2
  subst hH
  have key : ∀ r : FV × St, U4 m s esz x y = some r → U4 m ⟨uρ, ugn, s.H⟩ esz x y = some (r.1, ⟨uρ, ugn, r.2.H⟩) := fun r hr => by
   simp only [U4, e1, e2] at hr ⊢
   split at hr
   ·simp only [St.val] at hr; cases hr; rfl
   ·split at hr
    ·rename_i ho
     try simp only [ho]
     split at hr
     ·rename_i hc
      cases hr; rw [if_pos hc]
     ·cases hr
    ·cases hr
   ·cases hr
  exact ⟨_, key _ h, rfl, ⟨fun x hx => (by cases hx), fun x _ => rfl, rfl, by simp [Aj]⟩⟩
 | clr esz zero x =>
  have hH : u.H = s.H := ha.he (by simp [Aj])
  have hr := ha.rd
  simp only [Aj] at hr
  have e1 := Am (x := x) (ρ := s.ρ) (ρ' := u.ρ) fun t ht => hr t (by simp [CK.ops, ht])
  obtain ⟨uρ, ugn, uH⟩ := u
  simp only at hH e1
  subst hH
  have key : ∀ r : FV × St, Pi m s esz zero x = some r → Pi m ⟨uρ, ugn, s.H⟩ esz zero x = some (r.1, ⟨uρ, ugn, r.2.H⟩) := fun r hr => by
   simp only [Pi, e1] at hr ⊢
   split at hr
   ·simp only [St.val] at hr; cases hr; rfl
   ·split at hr
    ·rename_i ho
     try simp only [ho]
     split at hr
     ·rename_i hc
      cases hr; rw [if_pos hc]
     ·cases hr
    ·cases hr
   ·cases hr
  exact ⟨_, key _ h, rfl, ⟨fun x hx => (by cases hx), fun x _ => rfl, rfl, by simp [Aj]⟩⟩
 | call g args =>
  have hrd : ∀ t ∈ (CK.call g args).ops.flatMap F4, u.ρ t = s.ρ t := fun t ht => ha.rd t (by simp only [Aj]; split <;> (try split) <;> exact ht)
  have e1 := Lk (s := s) (u := u) hrd
  have hH : u.H = s.H := ha.he (by simp only [Aj]; split <;> (try split) <;> simp)
  have e2 : Aj E.pw u (.call g args) = Aj E.pw s (.call g args) := by simp only [Aj, e1, hH]
  have hwt : (Aj E.pw s (.call g args)).wt = [] ∧ (Aj E.pw s (.call g args)).gn = false ∧ (Aj E.pw s (.call g args)).he ≠ 0 := by simp only [Aj]; split <;> (try split) <;> simp
  unfold Bp at h ⊢
  rw [e1]
  cases hc : callee s (.call g args) with
  | none => rw [hc] at h; simp only [Ai] at h; cases h
  | some p =>
   obtain ⟨f', vs⟩ := p
   rw [hc] at h
   dsimp only at h ⊢
   rw [hH]
   generalize ev (if true = true then m.drawn E.pw s.H f' vs else m) f' vs s.H = res at h ⊢
   cases res with
   | none => cases h
   | some p =>
    obtain ⟨r, H⟩ := p
    cases h
    exact ⟨_, rfl, e2, ⟨fun x hx => (by rw [hwt.1] at hx; cases hx), fun x _ => rfl, by rw [hwt.2.1]; rfl, by rw [if_neg hwt.2.2]⟩⟩
 | callV x args =>
  have hrd : ∀ t ∈ (CK.callV x args).ops.flatMap F4, u.ρ t = s.ρ t := fun t ht => ha.rd t (by simp only [Aj]; split <;> (try split) <;> exact ht)
  have e1 := Lk (s := s) (u := u) hrd
  have hH : u.H = s.H := ha.he (by simp only [Aj]; split <;> (try split) <;> simp)
  have e2 : Aj E.pw u (.callV x args) = Aj E.pw s (.callV x args) := by simp only [Aj, e1, hH]
  have hwt : (Aj E.pw s (.callV x args)).wt = [] ∧ (Aj E.pw s (.callV x args)).gn = false ∧ (Aj E.pw s (.callV x args)).he ≠ 0 := by simp only [Aj]; split <;> (try split) <;> simp
  unfold Bp at h ⊢
  rw [e1]
  cases hc : callee s (.callV x args) with
  | none => rw [hc] at h; simp only [Ai] at h; cases h
  | some p =>
   obtain ⟨f', vs⟩ := p
   rw [hc] at h
   dsimp only at h ⊢
   rw [hH]
   generalize ev (if true = true then m.drawn E.pw s.H f' vs else m) f' vs s.H = res at h ⊢
   cases res with
   | none => cases h
   | some p =>
    obtain ⟨r, H⟩ := p
    cases h
    exact ⟨_, rfl, e2, ⟨fun x hx => (by rw [hwt.1] at hx; cases hx), fun x _ => rfl, by rw [hwt.2.1]; rfl, by rw [if_neg hwt.2.2]⟩⟩
 | _ => simp [CK.plain] at hp
end
section
variable {E : Hb} {m : Md} {ev : Xd}
theorem Z9 {s u : St} {o : CO} (h : ∀ t b, o.g = some (t, b) → u.ρ t = s.ρ t) : o.on u.ρ = o.on s.ρ := by
 unfold CO.on
 cases hg : o.g with
 | none => rfl
 | some p => obtain ⟨t, b⟩ := p; simp only [h t b hg]
theorem Mj {pw : Nat → Bool} {s : St} {o : CO} (h : o.on s.ρ = some true) :
  A1 pw s o = { Aj pw s o.k with rd := Io o ++ (Aj pw s o.k).rd, wt := o.dst.toList ++ (Aj pw s o.k).wt } := by
 simp only [A1, h]
theorem Kq {pw : Nat → Bool} {s : St} {o : CO} (h : o.on s.ρ = some false) :
  A1 pw s o = { rd := Io o, wt := o.dst.toList, hr := [], he := 0, ha := [] } := by
 simp only [A1, h]
theorem Jy {s t u : St} {o : CO} (h : C3 E m true ev s o = some t) (ha : nQ (A1 E.pw s o) s u) :
  ∃ t', C3 E m true ev u o = some t' ∧ A1 E.pw u o = A1 E.pw s o ∧ oP (A1 E.pw s o) t u t' := by
 have hon : o.on u.ρ = o.on s.ρ := Z9 fun t b hg => ha.rd t (by
  unfold A1 Io
  simp only [hg]
  split <;> simp)
 unfold C3 at h
 split at h
 ·rename_i hs
  rw [Mj hs] at ha ⊢
  split at h
  ·rename_i f s1 hc
   cases h
   obtain ⟨t', h1, h2, h3⟩ := Xf (pw := E.pw) rfl (u := u) hc ⟨fun x hx => ha.rd x (List.mem_append_right _ hx), ha.gn, ha.he, ha.hr⟩
   refine ⟨{ t' with ρ := Ah t'.ρ o.dst f }, ?_, ?_, ⟨fun x hx => ?_, fun x hx => ?_, h3.gn, h3.H⟩⟩
   ·simp only [C3, hon, hs, h1]
   ·rw [Mj (hon.trans hs), h2]
   ·cases hd : o.dst with
    | none =>
     rw [hd] at hx
     exact h3.wt x (by simpa using hx)
    | some d =>
     rw [hd] at hx
     simp only [Ah]
     split
     ·rfl
     ·rename_i hne
      exact h3.wt x (by simpa [hne] using hx)
   ·cases hd : o.dst with
    | none =>
     rw [hd] at hx
     exact h3.ot x (by simpa using hx)
    | some d =>
     rw [hd] at hx
     simp only [Ah]
     simp only [Option.toList_some, List.cons_append, List.nil_append, List.mem_cons, not_or] at hx
     rw [if_neg hx.1]
     exact h3.ot x hx.2
  ·cases h
 ·rename_i hs
  cases h
  rw [Kq hs] at ha ⊢
  refine ⟨{ u with ρ := Ah u.ρ o.dst (.val (.tuple #[])) }, ?_, ?_, ⟨fun x hx => ?_, fun x hx => ?_, rfl, rfl⟩⟩
  ·simp only [C3, hon, hs]
  ·rw [Kq (hon.trans hs)]
  ·cases hd : o.dst with
   | none => rw [hd] at hx; simp at hx
   | some d =>
    rw [hd] at hx
    have : x = d := by simpa using hx
    subst this
    simp [Ah]
  ·cases hd : o.dst with
   | none => rfl
   | some d =>
    rw [hd] at hx
    have : x ≠ d := by simpa using hx
    simp [Ah, this]
 ·cases h
theorem Mt {a b : List Nat} (h : J9 a b = true) : ∀ x ∈ a, x ∉ b := fun x hx hb => by
 have := List.all_eq_true.1 h x hx
 simp [hb] at this
theorem X3 (hev : Ng ev) {s t : St} {k : CK} {f : FV} (h : Bp E m true ev s k = some (f, t)) :
  ((Aj E.pw s k).he = 1 → ∀ id, id < s.H.length → t.H[id]? = s.H[id]?) ∧ ((Aj E.pw s k).he = 2 → ∀ id, id < s.H.length → id ∉ (Aj E.pw s k).ha → t.H[id]? = s.H[id]?) := by
 have nocall : (∀ g args, k ≠ .call g args) → (∀ x args, k ≠ .callV x args) → (∀ e b x y, k ≠ .app e b x y) → ¬ (Aj E.pw s k).he = 2 := fun h1 h2 h3 => by
  cases k <;> simp only [Aj] <;> first
   | exact absurd rfl (h1 _ _)
   | exact absurd rfl (h2 _ _)
   | exact absurd rfl (h3 _ _ _ _)
   | (split <;> simp)
   | simp
 have push : ∀ {r : List Value} {u : St}, u.H = s.H ++ [r] → ∀ id, id < s.H.length → u.H[id]? = s.H[id]? := fun e id hid => by rw [e, List.getElem?_append_left hid]
 have new1 : (Aj E.pw s k).he = 1 → (∀ g args, k ≠ .call g args) → (∀ x args, k ≠ .callV x args) → ∀ id, id < s.H.length → t.H[id]? = s.H[id]? := fun h0 h1 h2 => by
  cases k with
  | call g args => exact absurd rfl (h1 _ _)
  | callV x args => exact absurd rfl (h2 _ _)
  | newO zero =>
   simp only [Bp, callee, Ai, D3] at h
   cases h
   exact push rfl
  | boxO x =>
   simp only [Bp, callee, Ai, Fy, D3] at h
   split at h
   ·cases h; exact push rfl
   ·cases h
  | mkO len esz zero parts =>
   simp only [Bp, callee, Ai, I2] at h
   split at h
   ·cases h; exact push rfl
   ·cases h
  | makeS esz bytes zero l c =>
   simp only [Bp, callee, Ai, Ms] at h
   split at h
   ·split at h
    ·cases h; exact push rfl
    ·cases h
   ·cases h
  | s2b esz x =>
   simp only [Bp, callee, Ai, Xu] at h
   split at h
   ·cases h; exact push rfl
   ·cases h
  | store n x v =>
   simp only [Aj] at h0
   split at h0 <;> simp at h0
  | _ => simp [Aj] at h0
 have app2 : ∀ e b x y, k = .app e b x y → ∀ id, id < s.H.length → id ∉ (Aj E.pw s k).ha → t.H[id]? = s.H[id]? := fun e b x y hk id hid hna => by
  subst hk
  simp only [Bp, callee, Ai, Ce] at h
  simp only [Aj] at hna
  split at h
  ·rename_i v n cs hv hsrc
   rw [hv] at hna
   simp only at hna
   split at h
   ·split at h
    ·simp only [St.val] at h; cases h; rfl
    ·simp only [St.val] at h; cases h; rfl
    ·cases h
   ·split at h
    ·split at h
     ·cases h; exact push rfl id hid
     ·cases h
    ·rename_i id' off e' len cap
     have hne : id' ≠ id := fun e2 => hna (by subst e2; simp [Ae])
     split at h
     ·split at h
      ·split at h
       ·cases h; simp only [List.getElem?_set_ne hne]
       ·split at h
        ·cases h; simp only [List.getElem?_set_ne hne]
        ·cases h
      ·cases h
     ·cases h
    ·cases h
  ·cases h
 have main : (∃ g args, k = .call g args) ∨ (∃ x args, k = .callV x args) → ((Aj E.pw s k).he = 1 → ∀ id, id < s.H.length → t.H[id]? = s.H[id]?) ∧ ((Aj E.pw s k).he = 2 → ∀ id, id < s.H.length → id ∉ (Aj E.pw s k).ha → t.H[id]? = s.H[id]?) := fun hk => by
  have hinf : Aj E.pw s k = match callee s k with
    | some (f, vs) => if E.pw f then { rd := k.ops.flatMap F4, wt := [], hr := [], he := 1, ha := [], hb := s.H.length } else { rd := k.ops.flatMap F4, wt := [], hr := [], he := 2, ha := vs.flatMap Ae, hb := s.H.length }
    | none => { rd := k.ops.flatMap F4, wt := [], hr := [], he := 3, ha := [] } := by
   rcases hk with ⟨g, args, rfl⟩ | ⟨x, args, rfl⟩ <;> rfl
  rw [hinf]
  unfold Bp at h
  cases hc : callee s k with
  | none => simp
  | some p =>
   obtain ⟨f', vs⟩ := p
   rw [hc] at h
   dsimp only at h ⊢
   cases he : ev (if true = true then m.drawn E.pw s.H f' vs else m) f' vs s.H with
   | none => rw [he] at h; cases h
   | some p =>
    obtain ⟨r, H⟩ := p
    rw [he] at h
    cases h
    have hk := hev _ _ _ _ _ _ he
    constructor
    ·intro h1 id hid
     refine hk.wr id ?_ hid
     by_cases hp : E.pw f' = true
     ·simp [Md.drawn, hp]; omega
     ·simp [hp] at h1
    ·intro h1 id hid hna
     refine hk.wr id ?_ hid
     by_cases hp : E.pw f' = true
     ·simp [hp] at h1
     ·simp only [hp] at hna
      have hna' : (vs.flatMap Ae).contains id = false := by simpa using hna
      simp only [if_true, Md.drawn, hna']
      simp
      omega
 by_cases h1 : ∃ g args, k = .call g args
 ·exact main (.inl h1)
 ·by_cases h2 : ∃ x args, k = .callV x args
  ·exact main (.inr h2)
  ·have c1 : ∀ g args, k ≠ .call g args := fun g args e => h1 ⟨g, args, e⟩
   have c2 : ∀ x args, k ≠ .callV x args := fun x args e => h2 ⟨x, args, e⟩
   refine ⟨fun e => new1 e c1 c2, fun e => ?_⟩
   by_cases h3 : ∃ e b x y, k = .app e b x y
   ·obtain ⟨e', b, x, y, hk⟩ := h3
    exact app2 e' b x y hk
   ·exact absurd e (nocall c1 c2 fun e b x y hk => h3 ⟨e, b, x, y, hk⟩)
theorem W7 (hev : Ng ev) {s t : St} {o : CO} (h : C3 E m true ev s o = some t) :
  ((A1 E.pw s o).he = 1 → ∀ id, id < s.H.length → t.H[id]? = s.H[id]?) ∧ ((A1 E.pw s o).he = 2 → ∀ id, id < s.H.length → id ∉ (A1 E.pw s o).ha → t.H[id]? = s.H[id]?) := by
 unfold C3 at h
 split at h
 ·rename_i hs
  rw [Mj hs]
  split at h
  ·rename_i f s1 hc
   cases h
   exact X3 (t := s1) hev hc
  ·cases h
 ·rename_i hs
  rw [Kq hs]
  simp
 ·cases h
theorem Wj {pw : Nat → Bool} {s : St} {o : CO} (h : (A1 pw s o).he = 1 ∨ (A1 pw s o).he = 2) : (A1 pw s o).hb = s.H.length := by
 have hcall : ∀ (k : CK) (r : List Nat), (match callee s k with
    | some (f, vs) => if pw f then ({ rd := r, wt := [], hr := [], he := 1, ha := [], hb := s.H.length } : K3) else { rd := r, wt := [], hr := [], he := 2, ha := vs.flatMap Ae, hb := s.H.length }
    | none => { rd := r, wt := [], hr := [], he := 3, ha := [] }).he ≠ 3 → (match callee s k with
    | some (f, vs) => if pw f then ({ rd := r, wt := [], hr := [], he := 1, ha := [], hb := s.H.length } : K3) else { rd := r, wt := [], hr := [], he := 2, ha := vs.flatMap Ae, hb := s.H.length }
    | none => { rd := r, wt := [], hr := [], he := 3, ha := [] }).hb = s.H.length := fun k r h => by
  cases hc : callee s k with
  | none => simp [hc] at h
  | some p =>
   obtain ⟨f, vs⟩ := p
   by_cases hp : pw f = true <;> simp [hp]
 have hk : ∀ k : CK, (Aj pw s k).he = 1 ∨ (Aj pw s k).he = 2 → (Aj pw s k).hb = s.H.length := fun k h => by
  have h3 : (Aj pw s k).he ≠ 3 := by omega
  cases k with
  | call g args => exact hcall _ _ h3
  | callV x args => exact hcall _ _ h3
  | store n x v =>
   simp only [Aj] at h
   split at h <;> simp at h
  | newO zero => rfl
  | boxO x => rfl
  | mkO len esz zero parts => rfl
  | makeS esz bytes zero l c => rfl
  | s2b esz x => rfl
  | app esz bytes x y => rfl
  | _ => simp [Aj] at h
 unfold A1 at h ⊢
 split
 ·rename_i hs
  rw [hs] at h
  exact hk _ h
 ·rename_i hs
  split at h
  ·rename_i hs'; exact absurd hs' hs
  ·simp at h
theorem P9 (hev : Ng ev) {s t : St} {o : CO} (h : C3 E m true ev s o = some t) {b : K3} (hc : (A1 E.pw s o).calm b = true) (h0 : (A1 E.pw s o).he = 0 → t.H = s.H) : ∀ id ∈ b.hr, t.H[id]? = s.H[id]? := fun id hid => by
 obtain ⟨o1, o2⟩ := W7 hev h
 unfold K3.calm at hc
 split at hc
 ·rename_i e; rw [h0 e]
 ·rename_i e
  have := List.all_eq_true.1 hc id hid
  rw [Wj (.inl e)] at this
  exact o1 e id (by simpa using this)
 ·rename_i e
  have := List.all_eq_true.1 hc id hid
  rw [Wj (.inr e)] at this
  simp only [Bool.and_eq_true, decide_eq_true_eq, Bool.not_eq_true'] at this
  exact o2 e id this.1 (by simpa using this.2)
 ·have : b.hr = [] := by simpa using hc
  rw [this] at hid
  cases hid
theorem cE (hev : Ng ev) {s s1 s2 : St} {a b : CO} (ha : C3 E m true ev s a = some s1) (hb : C3 E m true ev s1 b = some s2) (hap : (A1 E.pw s a).apart (A1 E.pw s1 b) = true) :
  ∃ s1', C3 E m true ev s b = some s1' ∧ C3 E m true ev s1' a = some s2 ∧ A1 E.pw s b = A1 E.pw s1 b ∧ A1 E.pw s1' a = A1 E.pw s a := by
 have selfA : nQ (A1 E.pw s a) s s := ⟨fun _ _ => rfl, fun _ => rfl, fun _ => rfl, fun _ _ => rfl⟩
 have selfB : nQ (A1 E.pw s1 b) s1 s1 := ⟨fun _ _ => rfl, fun _ => rfl, fun _ => rfl, fun _ _ => rfl⟩
 obtain ⟨ta, ga, _, la⟩ := Jy ha selfA
 rw [ha] at ga; cases ga
 obtain ⟨tb, gb, _, lb⟩ := Jy hb selfB
 rw [hb] at gb; cases gb
 generalize hia : A1 E.pw s a = ia at *
 generalize hib : A1 E.pw s1 b = ib at *
 simp only [K3.apart, Bool.and_eq_true, Bool.not_eq_true', Bool.and_eq_false_iff, Bool.or_eq_true, beq_iff_eq] at hap
 obtain ⟨⟨⟨⟨⟨⟨p1, p2⟩, p3⟩, p4⟩, p5⟩, p6⟩, p7⟩ := hap
 have hba : ∀ id ∈ ib.hr, s1.H[id]? = s.H[id]? := fun id hid => by
  have := P9 hev ha (b := ib) (by rw [hia]; exact p6) (fun e => by rw [hia] at e; have := la.H; rw [if_pos e] at this; exact this) id hid
  exact this
 have agB : nQ ib s1 s := ⟨fun x hx => ((la.ot x fun hw => Mt p1 x hw hx)).symm, fun hg => by
   have := la.gn
   have hga : ia.gn = false := by
    rcases p4 with h | h
    ·exact h
    ·rw [hg] at h; cases h
   rw [hga] at this
   exact this.symm, fun he => by
   have hea : ia.he = 0 := by
    rcases p5 with h | h
    ·exact h
    ·exact absurd h he
   have := la.H
   rw [if_pos hea] at this
   exact this.symm, fun id hid => (hba id hid).symm⟩
 obtain ⟨s1', g1, g2, l1⟩ := Jy hb (by rw [hib]; exact agB)
 rw [hib] at g2 l1
 have agA : nQ ia s s1' := ⟨fun x hx => l1.ot x fun hw => Mt p2 x hw hx, fun hg => by
   have := l1.gn
   have hgb : ib.gn = false := by
    rcases p4 with h | h
    ·rw [hg] at h; cases h
    ·exact h
   rw [hgb] at this
   exact this, fun he => by
   have heb : ib.he = 0 := by
    rcases p5 with h | h
    ·exact absurd h he
    ·exact h
   have := l1.H
   rw [if_pos heb] at this
   exact this, fun id hid => by
   have e1 : A1 E.pw s b = ib := g2
   exact P9 hev g1 (b := ia) (by rw [e1]; exact p7) (fun e => by rw [e1] at e; have := l1.H; rw [if_pos e] at this; exact this) id hid⟩
 obtain ⟨s2', k1, k2, l2⟩ := Jy ha (by rw [hia]; exact agA)
 rw [hia] at k2 l2
 have hρ : s2'.ρ = s2.ρ := by
  funext x
  by_cases hx : x ∈ ia.wt
  ·rw [l2.wt x hx]
   exact (lb.ot x fun h => Mt p3 x hx h).symm
  ·rw [l2.ot x hx]
   by_cases hy : x ∈ ib.wt
   ·exact l1.wt x hy
   ·rw [l1.ot x hy, lb.ot x hy, la.ot x hx]
 have hgn : s2'.gn = s2.gn := by
  have e1 := l2.gn
  have e2 := l1.gn
  have e3 := lb.gn
  have e4 := la.gn
  cases hga : ia.gn <;> cases hgb : ib.gn <;> simp [hga, hgb] at e1 e2 e3 e4 p4
  ·rw [e1, e2, e3, e4]
  ·rw [e1, e2]
  ·rw [e1, e3]
 have hH : s2'.H = s2.H := by
  have e1 := l2.H
  have e2 := l1.H
  have e3 := lb.H
  have e4 := la.H
  by_cases hga : ia.he = 0 <;> by_cases hgb : ib.he = 0 <;> simp [hga, hgb] at e1 e2 e3 e4 p5
  ·rw [e1, e2, e3, e4]
  ·rw [e1, e2]
  ·rw [e1, e3]
 have : s2' = s2 := by
  cases s2'; cases s2
  simp only at hρ hgn hH
  rw [hρ, hgn, hH]
 subst this
 exact ⟨s1', g1, k1, g2, k2⟩
theorem Mm {o : CO} {os : List CO} {s s' : St} (h : C3 E m true ev s o = some s') : Ii E m ev (o :: os) s = (o, A1 E.pw s o) :: Ii E m ev os s' := by
 simp only [Ii, h]
theorem Jt {draw : Bool} {o : CO} {os : List CO} {s s' t : St} (h : Gh E m draw ev (o :: os) s = some t) : ∃ s', C3 E m draw ev s o = some s' ∧ Gh E m draw ev os s' = some t := by
 simp only [Gh] at h
 split at h
 ·rename_i s1 hs; exact ⟨s1, hs, h⟩
 ·cases h
theorem eW (hev : Ng ev) : ∀ {A : List CO} {i : CO} {B : List CO} {s t : St}, Gh E m true ev (A ++ i :: B) s = some t → B0 (Ii E m ev (A ++ i :: B) s) = true → (∀ a ∈ A, i.pre.contains a.ix = false) →
  ∃ s1 LA LB, C3 E m true ev s i = some s1 ∧ Gh E m true ev (A ++ B) s1 = some t ∧ Ii E m ev (A ++ i :: B) s = LA ++ (i, A1 E.pw s i) :: LB ∧ Ii E m ev (A ++ B) s1 = LA ++ LB
 | [], i, B, s, t, h, _, _ => by
  obtain ⟨s1, h1, h2⟩ := Jt (s' := s) h
  exact ⟨s1, [], Ii E m ev B s1, h1, h2, Mm h1, rfl⟩
 | a :: A, i, B, s, t, h, hp, hu => by
  obtain ⟨sa, h1, h2⟩ := Jt (s' := s) h
  have e := Mm (os := A ++ i :: B) h1
  have hp' : B0 ((a, A1 E.pw s a) :: Ii E m ev (A ++ i :: B) sa) = true := by rw [← e]; exact hp
  simp only [B0, Bool.and_eq_true] at hp'
  obtain ⟨sb, LA, LB, g1, g2, g3, g4⟩ := eW hev h2 hp'.2 fun x hx => hu x (List.mem_cons_of_mem _ hx)
  have hap : (A1 E.pw s a).apart (A1 E.pw sa i) = true := by
   have := List.all_eq_true.1 hp'.1 (i, A1 E.pw sa i) (by rw [g3]; simp)
   simp only [hu a List.mem_cons_self, Bool.false_or] at this
   exact this
  obtain ⟨s1', c1, c2, c3, c4⟩ := cE hev h1 g1 hap
  refine ⟨s1', (a, A1 E.pw s a) :: LA, LB, c1, ?_, ?_, ?_⟩
  ·rw [List.cons_append]
   simp only [Gh, c2, g2]
  ·rw [List.cons_append, e, g3, c3]
   rfl
  ·rw [List.cons_append, Mm c2, c4, g4]
   rfl
theorem Pl {LA LB : List (CO × K3)} {x : CO × K3} (h : B0 (LA ++ x :: LB) = true) : B0 (LA ++ LB) = true := by
 induction LA with
 | nil =>
  obtain ⟨o, i⟩ := x
  simp only [List.nil_append, B0, Bool.and_eq_true] at h ⊢
  exact h.2
 | cons y LA ih =>
  obtain ⟨o, i⟩ := y
  simp only [List.cons_append, B0, Bool.and_eq_true] at h ⊢
  refine ⟨?_, ih h.2⟩
  rw [List.all_eq_true] at h ⊢
  intro p hp
  refine h.1 p ?_
  rcases Lh hp with h1 | h1
  ·exact List.mem_append_left _ h1
  ·exact List.mem_append_right _ (List.mem_cons_of_mem _ h1)
end
def L5 (P : Program) (B : Nat) (ev : Xd) : Prop :=
 ∀ m f vs H r H', ev m f vs H = some (r, H') → (∀ id, m.wr id = true → B ≤ id) → B ≤ H.length →
  (∃ fn, P.funcs[f]? = some fn ∧ fn.body.isSome = true ∧ (fn.name == "runtime.NumGoroutine") = false) ∧
  ∀ (J : Bk) (w : World) (cs : Array Value), Dx B J H w → A7 J H vs cs.toList →
   Calls P f cs w fun e w' => ∃ v J', e = .returned v ∧ Tr B w.heap.size J H w J' H' w' ∧ Dx B J' H' w' ∧ A9 J' H' r v
def D2 (P : Program) : Prop :=
 ∀ f k v, Mi f [.int .i64 k] = some v → (∃ fn, P.funcs[f]? = some fn ∧ fn.body.isSome = true ∧ (fn.name == "runtime.NumGoroutine") = false) ∧
  ∀ w : World, Calls P f #[.int .i64 k] w fun e w' => e = .returned v ∧ RowKit.Below w.heap.size w w'
theorem Uk {f : Nat} {vs : List Value} {v : Value} (h : Mi f vs = some v) : ∃ k b, vs = [.int .i64 k] ∧ v = .string b := by
 unfold Mi at h
 split at h
 ·split at h
  ·cases h; exact ⟨_, _, rfl, rfl⟩
  ·split at h
   ·cases h; exact ⟨_, _, rfl, rfl⟩
   ·cases h
 ·cases h
theorem Tr.below {B : Nat} {J : Bk} {H : Hp} {w w' : World} (h : RowKit.Below w.heap.size w w') : Tr B w.heap.size J H w J H w' :=
 ⟨.refl _ _, fun b hb _ => h.block b hb, fun _ l' h => .inl ⟨l', h, rfl⟩, h.size, h.os, h.tape, h.output⟩
theorem Dx.below {B : Nat} {J : Bk} {H : Hp} {w w' : World} (h : RowKit.Below w.heap.size w w') (r : Dx B J H w) : Dx B J H w' :=
 ⟨fun id o ho => by
  obtain ⟨l, ds, e, lo, hi, h1, h2, h3⟩ := r.row id o ho
  have hlt := (Array.getElem?_eq_some_iff.1 h2).1
  exact ⟨l, ds, e, lo, hi, h1, by rw [h.block _ hlt]; exact h2, h3⟩, r.uni, r.dom⟩
section
variable {P : Program} {B N nt : Nat} {E : Hb} {m : Md} {ev : Xd} {hv : Nat → Bool}
theorem K7 {x : Option CK} {k : CK} (h : Nk x = some k) : x = some k ∧ k.isCall = false := by
 unfold Nk at h
 split at h
 ·split at h
  ·cases h
  ·rename_i hc; cases h; exact ⟨rfl, by simpa using hc⟩
 ·cases h
theorem Pg {s : St} {k : CK} (h : k.isCall = false) : callee s k = none := by
 cases k <;> first | rfl | (simp [CK.isCall] at h)
theorem Tc {dst : Option Nat} {o : Oper} {k : CK} (h : Wv P hv dst o = some k) :
  (Og P hv dst o = some k ∧ k.isCall = false) ∨
  (∃ c f xs fn, o.op = .call c ∧ c.callee = .value (.func f) ∧ Pd c.args.toList = some xs ∧ k = .call f xs ∧ P.funcs[f]? = some fn ∧ fn.body.isSome = true ∧ (fn.name == "runtime.NumGoroutine") = false) ∨
  (∃ c x y xs, o.op = .call c ∧ c.callee = .value x ∧ cx x = some y ∧ Pd c.args.toList = some xs ∧ k = .callV y xs) ∨
  (∃ c f xs d, o.op = .call c ∧ c.callee = .value (.func f) ∧ Pd c.args.toList = some xs ∧ k = .pureC f xs ∧ hv d = true) := by
 unfold Wv at h
 split at h
 ·rename_i c hop
  split at h
  ·rename_i f hc
   split at h
   ·rename_i hd
    unfold Tf at h
    split at h
    ·rename_i xs h2
     cases h
     obtain ⟨hd, _⟩ := hd
     obtain ⟨d, _, hd⟩ := Option.map_eq_some_iff.1 hd
     exact .inr (.inr (.inr ⟨c, f, xs, d, hop, hc, h2, rfl, hd⟩))
    ·cases h
   unfold Si at h
   split at h
   ·rename_i fn xs h1 h2
    split at h
    ·rename_i h3
     cases h
     exact .inr (.inl ⟨c, f, xs, fn, hop, hc, h2, rfl, h1, h3.1, h3.2⟩)
    ·cases h
   ·cases h
  ·rename_i x _ hc
   unfold Qp at h
   split at h
   ·rename_i y xs h1 h2
    cases h
    exact .inr (.inr (.inl ⟨c, x, y, xs, hop, hc, h1, h2, rfl⟩))
   ·cases h
  ·exact .inl (K7 h)
 ·exact .inl (K7 h)
theorem Hy {f : FuncId} {fn : Func} {args : Array Value} {w : World} (h1 : P.funcs[f]? = some fn) (h2 : fn.body.isSome = true) (h3 : (fn.name == "runtime.NumGoroutine") = false) : (callFunc f args).run P w = .ok (.enter f args) w := by
 have h4 : fn.body.isNone = false := by cases hb : fn.body <;> simp_all
 simp only [callFunc, Sem.run_bind, run_program, Result.andThen_ok, h1, h3, h4, Bool.false_eq_true, if_false, Sem.run_pure]
theorem Sf {H : Hp} {f : Nat} {vs : List Value} (hm : ∀ id, m.wr id = true → B ≤ id) (hB : B ≤ H.length) : ∀ id, (m.drawn E.pw H f vs).wr id = true → B ≤ id := fun id h => by
 simp only [Md.drawn, Bool.or_eq_true, decide_eq_true_eq, Bool.and_eq_true] at h
 rcases h with h | ⟨⟨_, h⟩, _⟩
 ·omega
 ·exact hm id h
theorem Ls {J : Bk} {s : St} {a : Act} {w : World} (R : B9 B N nt J s a w) {ops : Array Oper} {o : Oper} {c : CO} {b : Bool} (hg : No ops o = some c.g) (hon : c.on s.ρ = some b) : Region.wanted o (yielded ops a.tmps) = b := by
 unfold No at hg
 unfold Region.wanted
 unfold CO.on at hon
 split at hg
 ·rename_i h0
  have hg' : c.g = none := by simpa using hg.symm
  rw [hg'] at hon
  rw [h0]
  simpa using hon
 ·rename_i j want h0
  rw [h0]
  split at hg
  ·rename_i p hp
   split at hg
   ·rename_i t ht
    have hg' : c.g = some (t, want) := by simpa using hg.symm
    rw [hg'] at hon
    dsimp only at hon
    obtain ⟨own, ho⟩ := R.fr
    have hf := ho.ok t
    unfold Pf at hf
    have hy : ∀ v, a.tmps.getD t undef = v → v ≠ undef → a.tmps[t]? = some v := fun v hv hne => by
     rw [Array.getD_eq_getD_getElem?] at hv
     cases hq : a.tmps[t]? with
     | none => rw [hq] at hv; exact absurd hv.symm hne
     | some u => rw [hq] at hv; simp at hv; rw [hv]
    split at hon
    ·rename_i cb hρ
     rw [hρ] at hf
     dsimp only at hf
     have h1 := hy _ hf.bool_inv (by simp [undef])
     cases hon
     simp only [yielded, hp, Option.bind_some, ht, h1]
     cases cb <;> cases want <;> rfl
    ·rename_i vs hρ
     rw [hρ] at hf
     dsimp only at hf
     cases hon
     generalize hq : a.tmps.getD t undef = q at hf
     cases hf with
     | tup _ ds _ _ =>
      have hne : ∀ b, a.tmps[t]? ≠ some (.bool b) := fun b hb => by
       rw [Array.getD_eq_getD_getElem?, hb] at hq
       simp at hq
      simp only [yielded, hp, Option.bind_some, ht]
      cases hq2 : a.tmps[t]? with
      | none => rfl
      | some u =>
       cases u with
       | bool b => exact absurd hq2 (hne b)
       | _ => rfl
    ·cases hon
   ·cases hg
  ·cases hg
theorem Fg {ops : Array Oper} {draw : Bool} {pre : List (List Nat)} {i : Nat} {o : Oper} {c : CO} (h : M3 P hv nt ops draw pre i o = some c) :
  Wv P hv o.dst o = some c.k ∧ No ops o = some c.g ∧ c.dst = o.dst ∧ c.ix = i ∧ c.pre = (if draw = true then pre.getD i [] else []) ∧ (∀ d, o.dst = some d → d < nt) ∧ (draw = true → ∀ e ∈ o.after, G1 e = true → e.on < i) := by
 unfold M3 at h
 split at h
 ·rename_i k g h1 h2
  split at h
  ·rename_i h3
   cases h
   refine ⟨h1, h2, rfl, rfl, rfl, fun d hd => ?_, fun hdr e he hok => ?_⟩
   ·have := h3.2
    rw [hd] at this
    simpa [eV] using this
   ·have := List.all_eq_true.1 (h3.1 hdr) e (by simpa using he)
    simpa [hok] using this
  ·cases h
 ·cases h
theorem P4 {ops : Array Oper} {draw : Bool} {pre : List (List Nat)} {i : Nat} {o : Oper} {c : CO} (hc : M3 P hv nt ops draw pre i o = some c) (hpu : D2 P ∨ ∀ d, hv d = false) (hev : L5 P B ev) (hm : ∀ id, m.wr id = true → B ≤ id)
  {J : Bk} {s s' : St} {a : Act} {w : World} (hB : B ≤ s.H.length) (R : B9 B N nt J s a w) (h : C3 E m draw ev s c = some s') {K : Act → World → Prop} {Q : Exit → Act → World → Prop}
  (hK : ∀ J' a' w', Tr B N J s.H w J' s'.H w' → B9 B N nt J' s' a' w' → K a' w') :
  if Region.wanted o (yielded ops a.tmps) then o.wp P a w K Q else K (a.put o.dst undef) w := by
 obtain ⟨c1, c2, c3, c4, c5, c6, c7⟩ := Fg hc
 unfold C3 at h
 split at h
 ·rename_i hon
  rw [Ls R c2 hon]
  simp only [if_true]
  split at h
  ·rename_i f s1 hs
   cases h
   rw [c3] at hK
   unfold Bp at hs
   rcases Tc c1 with ⟨k1, k2⟩ | ⟨cl, g, xs, fn, hop, hcal, hxs, hk, hfn, hbd, hnm⟩ | ⟨cl, x, y, xs, hop, hcal, hx, hxs, hk⟩ | ⟨cl, g, xs, dd, hop, hcal, hxs, hk, hdd⟩
   ·rw [Pg k2] at hs
    obtain ⟨res, v, w', J', r1, r2, r3, r4⟩ := zY hm k1 R hB c6 hs
    unfold Oper.wp
    rw [r1]
    rcases r2 with rfl | ⟨rfl, rfl⟩
    ·exact hK J' _ _ r3 r4
    ·exact hK J' _ _ r3 r4
   ·rw [hk] at hs
    cases hcs : callee s (.call g xs) with
    | none => rw [hcs] at hs; simp [Ai] at hs
    | some p =>
     obtain ⟨g', vs⟩ := p
     have hcs' := hcs
     simp only [callee] at hcs
     split at hcs
     ·rename_i vs' hvs
      cases hcs
      rw [hcs'] at hs
      dsimp only at hs
      cases hq : ev (if draw = true then m.drawn E.pw s.H g vs else m) g vs s.H with
      | none => rw [hq] at hs; cases hs
      | some q =>
       obtain ⟨r, H⟩ := q
       rw [hq] at hs
       cases hs
       obtain ⟨_, hcall⟩ := hev _ _ _ _ _ _ hq (by cases draw with | false => exact hm | true => exact Sf hm hB) hB
       have hargs := Y4 R hxs hvs
       unfold Oper.wp
       have hrun : (execOp a.eval o).run P w = .ok (.enter g (cl.args.map a.eval)) w := by
        simp only [execOp, hop, resolve, hcal, Sem.run_bind, Act.eval, Deferred.ofValue, Sem.run_pure, Result.andThen_ok, invoke]
        rw [Hy hfn hbd hnm]
        simp
       rw [hrun, Oper.upon_enter]
       refine (hcall J w (cl.args.map a.eval) R.wr (by simpa using hargs)).mono fun e w' ⟨v, J', he, t1, t2, t3⟩ => ?_
       subst he
       have R1 := R.move t1 t2
       exact hK J' _ _ (t1.mono R.hN) (R1.put_val (s := { s with H := H }) c6 t3)
     ·cases hcs
   ·rw [hk] at hs
    cases hcs : callee s (.callV y xs) with
    | none => rw [hcs] at hs; simp [Ai] at hs
    | some p =>
     obtain ⟨g', vs⟩ := p
     have hcs' := hcs
     simp only [callee] at hcs
     split at hcs
     ·rename_i g first caps vs' hvx hvs
      split at hcs
      ·rename_i hfz
       cases hcs
       rw [hcs'] at hs
       dsimp only at hs
       cases hq : ev (if draw = true then m.drawn E.pw s.H g' (vs' ++ caps.toList) else m) g' (vs' ++ caps.toList) s.H with
       | none => rw [hq] at hs; cases hs
       | some q =>
        obtain ⟨r, H⟩ := q
        rw [hq] at hs
        cases hs
        obtain ⟨⟨fn, hfn, hbd, hnm⟩, hcall⟩ := hev _ _ _ _ _ _ hq (by cases draw with | false => exact hm | true => exact Sf hm hB) hB
        have hargs := Y4 R hxs hvs
        have hr := D7 R hx hvx
        generalize hv1 : a.eval x = cv at hr
        cases hr with
        | fn _ _ ds hsz hh =>
         unfold Oper.wp
         have hrun : (execOp a.eval o).run P w = .ok (.enter g' (cl.args.map a.eval ++ ds)) w := by
          simp only [execOp, hop, resolve, hcal, Sem.run_bind, hv1, Deferred.ofValue, Sem.run_pure, Result.andThen_ok, invoke]
          rw [Hy hfn hbd hnm]
          simp
         rw [hrun, Oper.upon_enter]
         have hl : A7 J s.H (vs' ++ caps.toList) (cl.args.map a.eval ++ ds).toList := by
          rw [Array.toList_append]
          refine A7.append (by simpa using hargs) ⟨by simpa using hsz, fun i x y hx hy => hh i x y (by simpa using hx) (by simpa using hy)⟩
         refine (hcall J w _ R.wr hl).mono fun e w' ⟨v, J', he, t1, t2, t3⟩ => ?_
         subst he
         have R1 := R.move t1 t2
         exact hK J' _ _ (t1.mono R.hN) (R1.put_val (s := { s with H := H }) c6 t3)
      ·cases hcs
     ·cases hcs
   ·rw [hk] at hs
    have hps : D2 P := by
     rcases hpu with h | h
     ·exact h
     ·rw [h dd] at hdd; cases hdd
    simp only [callee, Ai, Qj] at hs
    split at hs
    ·rename_i vs hvs
     split at hs
     ·rename_i r hr
      simp only [St.val] at hs
      cases hs
      obtain ⟨kk, bb, rfl, rfl⟩ := Uk hr
      obtain ⟨⟨fn, hfn, hbd, hnm⟩, hcall⟩ := hps g kk _ hr
      have hargs := Y4 R hxs hvs
      have hargs2 : cl.args.map a.eval = #[.int .i64 kk] := by
       have h1 : (cl.args.toList.map a.eval).length = 1 := hargs.1.symm
       have h2 := hargs.2 0 (.int .i64 kk) ((cl.args.toList.map a.eval)[0]'(by omega)) rfl (B7 (by omega))
       have h3 := h2.int_inv
       apply Array.toList_inj.1
       rw [Array.toList_map]
       refine List.ext_getElem? fun i => ?_
       cases i with
       | zero => rw [B7 (by omega), h3]; rfl
       | succ i => rw [List.getElem?_eq_none (by omega)]; rfl
      unfold Oper.wp
      have hrun : (execOp a.eval o).run P w = .ok (.enter g (cl.args.map a.eval)) w := by
       simp only [execOp, hop, resolve, hcal, Sem.run_bind, Act.eval, Deferred.ofValue, Sem.run_pure, Result.andThen_ok, invoke]
       rw [Hy hfn hbd hnm]
       simp
      rw [hrun, Oper.upon_enter, hargs2]
      refine (hcall w).mono fun e w' ⟨he, hb⟩ => ?_
      subst he
      have t1 := Tr.below (B := B) (J := J) (H := s.H) hb
      have R1 := R.move t1 (R.wr.below hb)
      exact hK J _ _ (t1.mono R.hN) (R1.put_val (s := { s with H := s.H }) c6 (.str _))
     ·cases hs
    ·cases hs
  ·cases h
 ·rename_i hon
  rw [Ls R c2 hon]
  cases h
  rw [c3] at hK
  exact hK J _ _ (.refl _ _ _ _ _) (R.put_val c6 (.tup #[] #[] rfl fun i x y hx => by simp at hx))
 ·cases h
theorem Hz {ops : Array Oper} {draw : Bool} {pre : List (List Nat)} : ∀ {os : List Oper} {i : Nat} {cs : List CO}, Ko P hv nt ops draw pre i os = some cs → cs.length = os.length ∧
  ∀ (j : Nat) (o : Oper), os[j]? = some o → ∃ c, cs[j]? = some c ∧ M3 P hv nt ops draw pre (i + j) o = some c
 | [], i, cs, h => by simp only [Ko] at h; cases h; exact ⟨rfl, fun j o ho => by simp at ho⟩
 | o :: os, i, cs, h => by
  simp only [Ko] at h
  split at h
  ·rename_i c cs' h1 h2
   cases h
   obtain ⟨k1, k2⟩ := Hz h2
   refine ⟨by simp [k1], fun j o' ho => ?_⟩
   cases j with
   | zero => simp at ho; subst ho; exact ⟨c, rfl, h1⟩
   | succ j =>
    obtain ⟨c', g1, g2⟩ := k2 j o' (by simpa using ho)
    exact ⟨c', by simpa using g1, by rw [show i + (j + 1) = i + 1 + j by omega]; exact g2⟩
  ·cases h
theorem Uv {ops : Array Oper} {pre : List (List Nat)} {Q : Exit → Act → World → Prop} {cs : List CO} (hcs : Ko P hv nt ops false pre 0 ops.toList = some cs) (hpu : D2 P ∨ ∀ d, hv d = false) (hev : L5 P B ev) (hkp : Ng ev) (hm : ∀ id, m.wr id = true → B ≤ id) :
  ∀ (n j : Nat) {J : Bk} {s t : St} {a : Act} {w : World}, j + n = ops.size → B ≤ s.H.length → B9 B N nt J s a w → Gh E m false ev (cs.drop j) s = some t → (∀ J' a' w', Tr B N J s.H w J' t.H w' → B9 B N nt J' t a' w' → Q .normal a' w') →
   wpOps P ops Q (List.range' j n) a w := by
 obtain ⟨l1, l2⟩ := Hz hcs
 intro n
 induction n with
 | zero =>
  intro j J s t a w hj hB R h hQ
  rw [List.drop_eq_nil_of_le (by simp at l1; omega)] at h
  simp only [Gh] at h; cases h
  simp only [List.range', wpOps]
  exact hQ J a w (.refl _ _ _ _ _) R
 | succ n ih =>
  intro j J s t a w hj hB R h hQ
  have hjlt : j < ops.size := by omega
  have ho : ops[j]? = some ops[j] := Array.getElem?_eq_getElem hjlt
  obtain ⟨c, hc1, hc2⟩ := l2 j ops[j] (by simpa using ho)
  rw [Nat.zero_add] at hc2
  have hd : cs.drop j = c :: cs.drop (j + 1) := by
   have := Em hc1
   obtain ⟨hlt, he⟩ := this
   rw [List.drop_eq_getElem_cons hlt, he]
  rw [hd] at h
  obtain ⟨s1, h1, h2⟩ := Jt (s' := s) h
  rw [List.range'_succ]
  simp only [wpOps, ho]
  have := P4 hc2 hpu hev hm hB R h1 (K := wpOps P ops Q (List.range' (j + 1) n)) (Q := Q) fun J' a' w' t1 R1 => ih (j + 1) (by omega) (C8 hB (Ox hkp h1).len) R1 h2 fun J'' a'' w'' t2 R2 => hQ J'' a'' w'' (t1.trans t2) R2
  split
  ·rename_i hw; rw [if_pos hw] at this; exact .inl this
  ·rename_i hw; rw [if_neg hw] at this; exact this
end
section
variable {P : Program} {B N nt : Nat} {E : Hb} {m : Md} {ev : Xd} {hv : Nat → Bool}
theorem L7 (e : Edge) : G1 e = Region.binds .any e := by
 unfold G1 Region.binds
 cases e.ground <;> rfl
theorem Tb : ∀ (os : List Oper) (acc : List (List Nat)), ∃ r, Mu os acc = acc ++ r
 | [], acc => ⟨[], by simp [Mu]⟩
 | o :: os, acc => by
  obtain ⟨r, hr⟩ := Tb os (acc ++ [((o.after.toList.filter G1).flatMap fun e => e.on :: acc.getD e.on []).eraseDups])
  exact ⟨_, by rw [Mu, hr, List.append_assoc]⟩
theorem Oh {l : List Nat} {x : Nat} (h : x ∈ l.eraseDups) : x ∈ l := by simpa using h
theorem Px : ∀ (os : List Oper) (acc : List (List Nat)) (j : Nat) (o : Oper), os[j]? = some o → ∀ p ∈ (Mu os acc).getD (acc.length + j) [], ∃ e ∈ o.after, G1 e = true ∧ (p = e.on ∨ p ∈ (Mu os acc).getD e.on [])
 | [], acc, j, o, h, p, hp => by simp at h
 | o :: os, acc, 0, o', h, p, hp => by
  simp at h; subst h
  obtain ⟨r, hr⟩ := Tb os (acc ++ [((o.after.toList.filter G1).flatMap fun e => e.on :: acc.getD e.on []).eraseDups])
  rw [Mu, hr] at hp ⊢
  have h1 : (acc ++ [((o.after.toList.filter G1).flatMap fun e => e.on :: acc.getD e.on []).eraseDups] ++ r).getD (acc.length + 0) [] = ((o.after.toList.filter G1).flatMap fun e => e.on :: acc.getD e.on []).eraseDups := by
   rw [List.append_assoc, List.getD_eq_getElem?_getD, List.getElem?_append_right (by omega)]
   simp
  rw [h1] at hp
  obtain ⟨e, he, hpe⟩ := List.mem_flatMap.1 (Oh hp)
  obtain ⟨he1, he2⟩ := List.mem_filter.1 he
  refine ⟨e, by simpa using he1, he2, ?_⟩
  rcases List.mem_cons.1 hpe with h2 | h2
  ·exact .inl h2
  ·right
   rw [List.append_assoc, List.getD_eq_getElem?_getD]
   rw [List.getD_eq_getElem?_getD] at h2
   have hlt : e.on < acc.length := by
    rcases Nat.lt_or_ge e.on acc.length with h3 | h3
    ·exact h3
    ·rw [List.getElem?_eq_none h3] at h2; simp at h2
   rw [List.getElem?_append_left hlt]
   exact h2
 | o :: os, acc, j + 1, o', h, p, hp => by
  rw [Mu] at hp ⊢
  have := Px os (acc ++ [((o.after.toList.filter G1).flatMap fun e => e.on :: acc.getD e.on []).eraseDups]) j o' (by simpa using h) p (by
   rw [List.length_append, List.length_singleton, show acc.length + 1 + j = acc.length + (j + 1) by omega]
   exact hp)
  exact this
def left (cs : List CO) (listed : Array Bool) : List CO := cs.filter fun c => !listed.getD c.ix true
theorem R4 (l : Array Bool) (i j : Nat) (hi : i < l.size) : (l.setIfInBounds i true).getD j true = if j = i then true else l.getD j true := by
 simp only [Array.getD_eq_getD_getElem?]
 by_cases h : j = i
 ·subst h; simp [hi]
 ·rw [Array.getElem?_setIfInBounds_ne (Ne.symm h), if_neg h]
theorem P0 {l : Array Bool} {j : Nat} (hj : j < l.size) : l.getD j false = l.getD j true := by simp [Array.getD, hj]
theorem Zk {ops : Array Oper} {Q : Exit → Act → World → Prop} {cs : List CO} (hcs : Ko P hv nt ops true (Mu ops.toList []) 0 ops.toList = some cs) (hpu : D2 P ∨ ∀ d, hv d = false) (hev : L5 P B ev) (hkp : Ng ev) (hm : ∀ id, m.wr id = true → B ≤ id) :
  ∀ (fuel : Nat) (listed : Array Bool) {J : Bk} {s t : St} {a : Act} {w : World}, listed.size = ops.size → (∀ c ∈ cs, listed.getD c.ix true = true → ∀ p ∈ c.pre, listed.getD p true = true) → (left cs listed).length ≤ fuel →
   B ≤ s.H.length → B9 B N nt J s a w → Gh E m true ev (left cs listed) s = some t → B0 (Ii E m ev (left cs listed) s) = true →
   (∀ J' a' w', Tr B N J s.H w J' t.H w' → B9 B N nt J' t a' w' → Q .normal a' w') → wpAny P .any ops Q fuel listed a w := by
 obtain ⟨l1, l2⟩ := Hz hcs
 have hlen : cs.length = ops.size := by simpa using l1
 have hix : ∀ (j : Nat) (c : CO), cs[j]? = some c → c.ix = j := fun j c hc => by
  have hj := (Em hc).1
  obtain ⟨c', g1, g2⟩ := l2 j ops[j] (by simp)
  rw [hc] at g1; cases g1
  have := (Fg g2).2.2.2.1
  omega
 have hop : ∀ (j : Nat) (o : Oper), ops[j]? = some o → ∃ c ∈ cs, c.ix = j ∧ M3 P hv nt ops true (Mu ops.toList []) j o = some c := fun j o ho => by
  obtain ⟨c, g1, g2⟩ := l2 j o (by simpa using ho)
  rw [Nat.zero_add] at g2
  exact ⟨c, List.mem_of_getElem? g1, hix j c g1, g2⟩
 have hback : ∀ c ∈ cs, ∃ o, ops[c.ix]? = some o ∧ M3 P hv nt ops true (Mu ops.toList []) c.ix o = some c := fun c hc => by
  obtain ⟨j, hj⟩ := List.getElem?_of_mem hc
  have hjl := (Em hj).1
  obtain ⟨c', g1, g2⟩ := l2 j ops[j] (by simp)
  rw [hj] at g1; cases g1
  rw [Nat.zero_add] at g2
  rw [hix j c hj]
  exact ⟨_, Array.getElem?_eq_getElem (by omega), g2⟩
 have hsort : cs.Pairwise fun x y => x.ix < y.ix := by
  rw [List.pairwise_iff_getElem]
  intro i j hi hj hij
  rw [hix i _ (B7 hi), hix j _ (B7 hj)]
  exact hij
 have hon : ∀ {c : CO} {o : Oper} {j : Nat}, M3 P hv nt ops true (Mu ops.toList []) j o = some c → ∀ e ∈ o.after, Region.binds .any e = true → e.on < j := fun {c o j} h e he hb => by
  exact (Fg h).2.2.2.2.2.2 rfl e he (by rw [L7]; exact hb)
 intro fuel
 induction fuel with
 | zero =>
  intro listed J s t a w hls hcl hfu hB R h hap hQ
  have h0 : left cs listed = [] := List.eq_nil_of_length_eq_zero (by omega)
  rw [h0] at h
  simp only [Gh] at h; cases h
  refine ⟨?_, hQ J a w (.refl _ _ _ _ _) R⟩
  cases hr : Region.ready .any ops listed with
  | nil => rfl
  | cons i rs =>
   exfalso
   obtain ⟨g1, o, g2, _⟩ := mem_ready.1 (hr ▸ List.mem_cons_self : i ∈ Region.ready .any ops listed)
   obtain ⟨c, c1, c2, _⟩ := hop i o g2
   have : c ∈ left cs listed := List.mem_filter.2 ⟨c1, by rw [c2, g1]; rfl⟩
   rw [h0] at this
   cases this
 | succ fuel ih =>
  intro listed J s t a w hls hcl hfu hB R h hap hQ
  refine ⟨fun hr => ?_, fun i hi => ?_⟩
  ·cases hl : left cs listed with
   | nil =>
    rw [hl] at h
    simp only [Gh] at h; cases h
    exact hQ J a w (.refl _ _ _ _ _) R
   | cons c rest =>
    exfalso
    have hcm : c ∈ left cs listed := by rw [hl]; exact List.mem_cons_self
    obtain ⟨c1, c2⟩ := List.mem_filter.1 hcm
    obtain ⟨o, o1, o2⟩ := hback c c1
    have hmem : c.ix ∈ Region.ready .any ops listed := by
     rw [mem_ready]
     refine ⟨by simpa using c2, o, o1, fun e he hb => ?_⟩
     have hlt := hon o2 e he hb
     have hcx : c.ix < ops.size := (Array.getElem?_eq_some_iff.1 o1).1
     rw [P0 (by omega)]
     cases hg : listed.getD e.on true with
     | true => rfl
     | false =>
      exfalso
      obtain ⟨c', d1, d2, _⟩ := hop e.on ops[e.on] (Array.getElem?_eq_getElem (by omega))
      have hm' : c' ∈ left cs listed := List.mem_filter.2 ⟨d1, by rw [d2, hg]; rfl⟩
      have hps : (left cs listed).Pairwise fun x y => x.ix < y.ix := hsort.filter _
      rw [hl] at hm' hps
      rcases List.mem_cons.1 hm' with h3 | h3
      ·rw [h3] at d2; omega
      ·have := (List.pairwise_cons.1 hps).1 c' h3
       omega
    rw [hr] at hmem
    cases hmem
  ·obtain ⟨g1, o, g2, g3⟩ := mem_ready.1 hi
   have hisz : i < ops.size := (Array.getElem?_eq_some_iff.1 g2).1
   obtain ⟨c, c1, c2, c3⟩ := hop i o g2
   have hcm : c ∈ left cs listed := List.mem_filter.2 ⟨c1, by rw [c2, g1]; rfl⟩
   obtain ⟨A, B', hAB⟩ := List.append_of_mem hcm
   have hps : (left cs listed).Pairwise fun x y => x.ix < y.ix := hsort.filter _
   have hpre : ∀ p ∈ c.pre, listed.getD p true = true := fun p hp => by
    rw [(Fg c3).2.2.2.2.1, if_pos rfl] at hp
    obtain ⟨e, he, hok, hpe⟩ := Px ops.toList [] i o (by simpa using g2) p (by simpa using hp)
    have hb : Region.binds .any e = true := by rw [← L7]; exact hok
    have hlt := hon c3 e he hb
    have hle : listed.getD e.on true = true := by rw [← P0 (by omega)]; exact g3 e he hb
    rcases hpe with rfl | hpe
    ·exact hle
    ·obtain ⟨c', d1, d2, d3⟩ := hop e.on ops[e.on] (Array.getElem?_eq_getElem (by omega))
     refine hcl c' d1 (by rw [d2]; exact hle) p ?_
     rw [(Fg d3).2.2.2.2.1, if_pos rfl]
     exact hpe
   have hmemA : ∀ x ∈ A, x ∈ left cs listed := fun x hx => by rw [hAB]; exact List.mem_append_left _ hx
   rw [hAB] at h hap hps
   obtain ⟨s1, LA, LB, f1, f2, f3, f4⟩ := eW hkp h hap fun x hx => by
    cases hq : c.pre.contains x.ix with
    | false => rfl
    | true =>
     have h1 := hpre x.ix (by simpa using hq)
     have h2 := (List.mem_filter.1 (hmemA x hx)).2
     rw [h1] at h2
     cases h2
   have hne : (∀ x ∈ A, x.ix ≠ i) ∧ ∀ x ∈ B', x.ix ≠ i := by
    rw [List.pairwise_append] at hps
    obtain ⟨_, q2, q3⟩ := hps
    refine ⟨fun x hx e => ?_, fun x hx e => ?_⟩
    ·have := q3 x hx c List.mem_cons_self
     omega
    ·have := (List.pairwise_cons.1 q2).1 x hx
     omega
   have hleft : left cs (listed.setIfInBounds i true) = A ++ B' := by
    have e1 : left cs (listed.setIfInBounds i true) = (left cs listed).filter fun x => decide (x.ix ≠ i) := by
     unfold left
     rw [List.filter_filter]
     congr 1
     funext x
     rw [R4 _ _ _ (by omega)]
     by_cases hx : x.ix = i <;> simp [hx]
    rw [e1, hAB, List.filter_append, List.filter_cons]
    rw [if_neg (by simp [c2])]
    rw [List.filter_eq_self.2 (fun x hx => by simpa using hne.1 x hx), List.filter_eq_self.2 (fun x hx => by simpa using hne.2 x hx)]
   have hsim := P4 c3 hpu hev hm hB R f1 (K := wpAny P .any ops Q fuel (listed.setIfInBounds i true)) (Q := Q) fun J' a' w' t1 R1 =>
    ih (listed.setIfInBounds i true) (by simpa using hls) (fun c' hc' hl' p hp => by
      have hpl : p < ops.size ∨ listed.getD p true = true := by
       by_cases hpp : p < ops.size
       ·exact .inl hpp
       ·right
        simp only [Array.getD]
        rw [dif_neg (by omega)]
      rw [R4 _ _ _ (by omega)] at hl' ⊢
      split
      ·rfl
      ·by_cases hci : c'.ix = i
       ·have : c' = c := by
         obtain ⟨o', o1, o2⟩ := hback c' hc'
         rw [hci, g2] at o1
         cases o1
         rw [hci, c3] at o2
         cases o2
         rfl
        subst this
        exact hpre p hp
       ·rw [if_neg hci] at hl'
        exact hcl c' hc' hl' p hp)
     (by rw [hleft]; rw [hAB] at hfu; simp at hfu ⊢; omega) (C8 hB (Ox hkp f1).len) R1 (by rw [hleft]; exact f2) (by rw [hleft, f4]; rw [f3] at hap; exact Pl hap)
     fun J'' a'' w'' t2 R2 => hQ J'' a'' w'' (t1.trans t2) R2
   unfold wpOp
   rw [g2]
   dsimp only
   split
   ·rename_i hw; rw [if_pos hw] at hsim; exact .inl hsim
   ·rename_i hw; rw [if_neg hw] at hsim; exact hsim
def cT (ev ev' : Xd) : Prop := ∀ m f vs H r, ev m f vs H = some r → ev' m f vs H = some r
theorem Vi {ev' : Xd} (hle : cT ev ev') {draw : Bool} {s : St} {k : CK} {r : FV × St} (h : Bp E m draw ev s k = some r) : Bp E m draw ev' s k = some r := by
 unfold Bp at h ⊢
 cases hc : callee s k with
 | none => rw [hc] at h; exact h
 | some p =>
  obtain ⟨f, vs⟩ := p
  rw [hc] at h
  dsimp only at h ⊢
  cases hq : ev (if draw = true then m.drawn E.pw s.H f vs else m) f vs s.H with
  | none => rw [hq] at h; cases h
  | some q => rw [hq] at h; rw [hle _ _ _ _ _ hq]; exact h
theorem Ug {ev' : Xd} (hle : cT ev ev') {draw : Bool} {s : St} {o : CO} {r : St} (h : C3 E m draw ev s o = some r) : C3 E m draw ev' s o = some r := by
 unfold C3 at h ⊢
 split at h
 ·cases hq : Bp E m draw ev s o.k with
  | none => rw [hq] at h; cases h
  | some q => rw [hq] at h; rw [Vi hle hq]; exact h
 ·exact h
 ·cases h
theorem Qa {ev' : Xd} (hle : cT ev ev') {draw : Bool} : ∀ {os : List CO} {s r : St}, Gh E m draw ev os s = some r → Gh E m draw ev' os s = some r ∧ (draw = true → Ii E m ev' os s = Ii E m ev os s)
 | [], s, r, h => ⟨h, fun _ => rfl⟩
 | o :: os, s, r, h => by
  obtain ⟨s1, h1, h2⟩ := Jt (s' := s) h
  obtain ⟨i1, i2⟩ := Qa hle h2
  have h3 := Ug hle h1
  refine ⟨by simp only [Gh, h3]; exact i1, fun hd => ?_⟩
  subst hd
  simp only [Ii, h1, h3, i2 rfl]
theorem Qz : ∀ (k : Nat), cT (K4 E k) (K4 E (k + 1)) ∧ ∀ m c s r, Du E k m c s = some r → Du E (k + 1) m c s = some r
 | 0 => ⟨fun m f vs H r h => by simp [K4] at h, fun m c s r h => by simp [Du] at h⟩
 | k + 1 => by
  obtain ⟨i1, i2⟩ := Qz k
  refine ⟨fun m f vs H r h => ?_, fun m c s r h => ?_⟩
  ·rw [K4] at h ⊢
   split at h
   ·exact h
   ·split at h
    ·cases h
    ·rename_i cf _
     split at h
     ·rename_i hl
      rw [if_pos hl]
      cases hq : Du E k { m with nr := m.nr || E.tr f } cf.body { ρ := Cb vs, gn := 1, H := H } with
      | none => rw [hq] at h; cases h
      | some q => rw [hq] at h; rw [i2 _ _ _ _ hq]; exact h
     ·cases h
  ·cases c with
   | skip => rw [Du] at h ⊢; exact h
   | exit id => rw [Du] at h ⊢; exact h
   | ret => rw [Du] at h ⊢; exact h
   | reg draw ops =>
    rw [Du] at h ⊢
    split at h
    ·cases h
    ·rename_i hna
     cases hq : Gh E m draw (K4 E k) ops s with
     | none => rw [hq] at h; cases h
     | some q =>
      obtain ⟨j1, j2⟩ := Qa i1 hq
      rw [if_neg (fun hc => hna ⟨hc.1, by rw [← j2 hc.1]; exact hc.2⟩), j1]
      rw [hq] at h
      exact h
   | seq a b =>
    rw [Du] at h ⊢
    cases hq : Du E k m a s with
    | none => rw [hq] at h; cases h
    | some q =>
     obtain ⟨e, s1⟩ := q
     rw [hq] at h
     rw [i2 _ _ _ _ hq]
     cases e with
     | normal => exact i2 _ _ _ _ h
     | exit id => exact h
     | ret => exact h
   | cond c a b =>
    rw [Du] at h ⊢
    split at h
    ·exact i2 _ _ _ _ h
    ·exact i2 _ _ _ _ h
    ·cases h
   | block id c =>
    rw [Du] at h ⊢
    cases hq : Du E k m c s with
    | none => rw [hq] at h; cases h
    | some q => rw [hq] at h; rw [i2 _ _ _ _ hq]; exact h
   | loop c =>
    rw [Du] at h ⊢
    cases hq : Du E k m c s with
    | none => rw [hq] at h; cases h
    | some q =>
     obtain ⟨e, s1⟩ := q
     rw [hq] at h
     rw [i2 _ _ _ _ hq]
     cases e with
     | normal => exact i2 _ _ _ _ h
     | exit id => exact h
     | ret => exact h
theorem Hw {k : Nat} : ∀ (d : Nat) {c : CC} {s : St} {r : Ex × St}, Du E k m c s = some r → Du E (k + d) m c s = some r
 | 0, c, s, r, h => h
 | d + 1, c, s, r, h => (Qz (E := E) (k + d)).2 _ _ _ _ (Hw d h)
theorem Lt {k : Nat} : ∀ (d : Nat) {f : Nat} {vs : List Value} {H : Hp} {r : Value × Hp}, K4 E k m f vs H = some r → K4 E (k + d) m f vs H = some r
 | 0, f, vs, H, r, h => h
 | d + 1, f, vs, H, r, h => (Qz (E := E) (k + d)).1 _ _ _ _ _ (Lt d h)
def Ex.to : Ex → Exit
 | .normal => .normal
 | .exit id => .exit id
 | .ret => .ret
theorem Sj {J : Bk} {s : St} {a : Act} {w : World} (R : B9 B N nt J s a w) {x : Operand} {y : X} {b : Bool} (hx : cx x = some y) (h : Av s.ρ y = some (.bool b)) : a.eval x = .bool b := (D7 R hx h).bool_inv
theorem yN {k : Nat} (hmix : P.follows .mixedOrders = true) (hpu : D2 P ∨ ∀ d, hv d = false) (hev : ∀ j, j < k → L5 P B (K4 E j)) (hkp : ∀ j, Ng (K4 E j) ∧ ∀ m c s e s', Du E j m c s = some (e, s') → Kp m s.H s'.H) (hm : ∀ id, m.wr id = true → B ≤ id) :
  ∀ (j : Nat), j ≤ k → ∀ {c : Code} {cc : CC} {J : Bk} {s s' : St} {a : Act} {w : World} {e : Ex} {Q : Exit → Act → World → Prop}, Fs P hv nt c = some cc → Du E j m cc s = some (e, s') → B ≤ s.H.length → B9 B N nt J s a w →
   (∀ J' a' w', Tr B N J s.H w J' s'.H w' → B9 B N nt J' s' a' w' → Q e.to a' w') → c.wp P Q a w := by
 intro j
 induction j with
 | zero => intro _ c cc J s s' a w e Q hc h; simp [Du] at h
 | succ j ih =>
  intro hj c cc J s s' a w e Q hc h hB R hQ
  have ihj := fun {c : Code} {cc : CC} {J : Bk} {s s' : St} {a : Act} {w : World} {e : Ex} {Q : Exit → Act → World → Prop} => ih (by omega) (c := c) (cc := cc) (J := J) (s := s) (s' := s') (a := a) (w := w) (e := e) (Q := Q)
  cases c with
  | skip =>
   simp only [Fs] at hc; cases hc
   simp only [Du] at h; cases h
   exact wp_skip (hQ J a w (.refl _ _ _ _ _) R)
  | exit id =>
   simp only [Fs] at hc; cases hc
   simp only [Du] at h; cases h
   exact wp_exit (hQ J a w (.refl _ _ _ _ _) R)
  | ret =>
   simp only [Fs] at hc; cases hc
   simp only [Du] at h; cases h
   exact wp_ret (hQ J a w (.refl _ _ _ _ _) R)
  | region id ops draw =>
   simp only [Fs] at hc
   split at hc
   ·rename_i cs hcs
    cases hc
    simp only [Du] at h
    split at h
    ·cases h
    ·rename_i hna
     split at h
     ·rename_i s1 hs
      cases h
      cases draw with
      | false =>
       refine wp_region ?_
       have := Uv (N := N) (Q := Q) hcs hpu (hev j (by omega)) (hkp j).1 hm ops.size 0 (by omega) hB R hs hQ
       rw [List.range_eq_range']
       exact this
      | true =>
       refine wp_region_any hmix ?_
       have hap : B0 (Ii E m (K4 E j) cs s) = true := by
        cases hq : B0 (Ii E m (K4 E j) cs s) with
        | true => rfl
        | false => exact absurd ⟨rfl, hq⟩ hna
       obtain ⟨l1, l2⟩ := Hz hcs
       have hixs : ∀ c ∈ cs, c.ix < ops.size := fun c hcm => by
        obtain ⟨jj, hjj⟩ := List.getElem?_of_mem hcm
        have hlt := (Em hjj).1
        simp at l1
        obtain ⟨c', g1, g2⟩ := l2 jj ops[jj] (by simp)
        rw [hjj] at g1; cases g1
        have := (Fg g2).2.2.2.1
        omega
       have hrep : ∀ jj, jj < ops.size → (Array.replicate ops.size false).getD jj true = false := fun jj hjj => by simp [Array.getD, hjj]
       have hleft : left cs (Array.replicate ops.size false) = cs := by
        unfold left
        rw [List.filter_eq_self]
        intro c hcm
        rw [hrep _ (hixs c hcm)]
        rfl
       have R1 := R.drew
       have := Zk (N := N) (Q := Q) hcs hpu (hev j (by omega)) (hkp j).1 hm ops.size (Array.replicate ops.size false) (s := s) (t := s') (by simp) (fun c hcm hl => by rw [hrep _ (hixs c hcm)] at hl; cases hl) (by rw [hleft]; simp at l1; omega) hB R1
        (by rw [hleft]; exact hs) (by rw [hleft]; exact hap) fun J' a' w' t1 R2 => hQ J' a' w' (((Tr.drew J s.H w).mono R.hN).trans t1) R2
       exact this
     ·cases h
   ·cases hc
    simp only [Du, Av, ex] at h
    cases h
  | seq x y =>
   simp only [Fs] at hc
   split at hc
   ·rename_i cx' cy' h1 h2
    cases hc
    simp only [Du] at h
    refine wp_seq ?_
    cases he : Du E j m cx' s with
    | none => rw [he] at h; cases h
    | some p =>
     obtain ⟨e1, s1⟩ := p
     rw [he] at h
     have hk := (hkp j).2 _ _ _ _ _ he
     refine ihj h1 he hB R fun J' a' w' t1 R1 => ?_
     cases e1 with
     | normal =>
      dsimp only at h
      exact ihj h2 h (C8 hB hk.len) R1 fun J'' a'' w'' t2 R2 => hQ J'' a'' w'' (t1.trans t2) R2
     | exit id => cases h; exact hQ J' a' w' t1 R1
     | ret => cases h; exact hQ J' a' w' t1 R1
   ·cases hc
  | cond x y z =>
   simp only [Fs] at hc
   split at hc
   ·rename_i c' y' z' h1 h2 h3
    cases hc
    simp only [Du] at h
    split at h
    ·rename_i hb
     exact wp_cond_true (Sj R h1 hb) (ihj h2 h hB R hQ)
    ·rename_i hb
     exact wp_cond_false (Sj R h1 hb) (ihj h3 h hB R hQ)
    ·cases h
   ·cases hc
  | block id x =>
   simp only [Fs] at hc
   split at hc
   ·rename_i x' h1
    cases hc
    simp only [Du] at h
    refine wp_block ?_
    cases he : Du E j m x' s with
    | none => rw [he] at h; cases h
    | some p =>
     obtain ⟨e1, s1⟩ := p
     rw [he] at h
     refine ihj h1 he hB R fun J' a' w' t1 R1 => ?_
     cases e1 with
     | normal => cases h; exact hQ J' a' w' t1 R1
     | exit id' =>
      dsimp only at h
      show (if id' = id then Q .normal a' w' else Q (.exit id') a' w')
      split at h
      ·rename_i hid; cases h; rw [if_pos hid]; exact hQ J' a' w' t1 R1
      ·rename_i hid; cases h; rw [if_neg hid]; exact hQ J' a' w' t1 R1
     | ret => cases h; exact hQ J' a' w' t1 R1
   ·cases hc
  | loop x =>
   simp only [Fs] at hc
   split at hc
   ·rename_i x' h1
    cases hc
    refine wp_loop_rounds (j + 1) ?_
    have key : ∀ (i : Nat), i ≤ j + 1 → ∀ {J : Bk} {s s' : St} {a : Act} {w : World} {e : Ex}, Du E i m (.loop x') s = some (e, s') → B ≤ s.H.length → B9 B N nt J s a w →
      (∀ J' a' w', Tr B N J s.H w J' s'.H w' → B9 B N nt J' s' a' w' → Q e.to a' w') → Code.rounds P x Q i a w := by
     intro i
     induction i with
     | zero => intro _ J s s' a w e h; simp [Du] at h
     | succ i ihi =>
      intro hi J s s' a w e h hB R hQ
      simp only [Du] at h
      rw [rounds_succ]
      cases he : Du E i m x' s with
      | none => rw [he] at h; cases h
      | some p =>
       obtain ⟨e1, s1⟩ := p
       rw [he] at h
       have hk := (hkp i).2 _ _ _ _ _ he
       have he' : ∃ e1' s1', Du E i m x' s = some (e1', s1') := ⟨e1, s1, he⟩
       have body : ∀ {Q' : Exit → Act → World → Prop}, (∀ J' a' w', Tr B N J s.H w J' s1.H w' → B9 B N nt J' s1 a' w' → Q' e1.to a' w') → x.wp P Q' a w := fun {Q'} hQ' => by
        have hmono : ∀ d, i + d = j → Du E j m x' s = some (e1, s1) := fun d hd => by
         subst hd
         exact Hw d he
        exact ihj h1 (hmono (j - i) (by omega)) hB R hQ'
       refine body fun J' a' w' t1 R1 => ?_
       cases e1 with
       | normal =>
        dsimp only at h
        exact ihi (by omega) h (C8 hB hk.len) R1 fun J'' a'' w'' t2 R2 => hQ J'' a'' w'' (t1.trans t2) R2
       | exit id => cases h; exact hQ J' a' w' t1 R1
       | ret => cases h; exact hQ J' a' w' t1 R1
    exact key (j + 1) (Nat.le_refl _) h hB R hQ
   ·cases hc
  | _ => simp [Fs] at hc
end
theorem A9.cut {J J' J'' : Bk} {H H' H'' : Hp} (hh : ∀ id, id < H.length → H''[id]? = H'[id]? ∧ J'' id = J' id) {v c0 : Value} (h : A9 J H v c0) : ∀ {c : Value}, A9 J' H' v c → A9 J'' H'' v c := by
 induction h with
 | int k n => intro c h; cases h; exact .int _ _
 | bool b => intro c h; cases h; exact .bool _
 | str s => intro c h; cases h; exact .str _
 | nptr => intro c h; cases h; exact .nptr
 | nsl => intro c h; cases h; exact .nsl
 | nfn => intro c h; cases h; exact .nfn
 | ptr id off gen o a h hg hv =>
  intro c h2
  have hid := (Em h).1
  cases h2 with
  | ptr _ _ _ o2 a2 g1 g2 g3 => exact .ptr _ _ _ o2 a2 (by rw [(hh id hid).1]; exact g1) g2 fun e => by rw [(hh id hid).2]; exact g3 e
 | sl id off e len cap o a ccap h hg hl hc hv =>
  intro c h2
  have hid := (Em h).1
  cases h2 with
  | sl _ _ _ _ _ o2 a2 cc2 g1 g2 g3 g4 g5 => exact .sl _ _ _ _ _ o2 a2 cc2 (by rw [(hh id hid).1]; exact g1) g2 g3 g4 fun e => by rw [(hh id hid).2]; exact g5 e
 | agg cs ds hs h1 h ih =>
  intro c h2
  cases h2 with
  | agg _ ds2 hs2 h12 h2 =>
   refine .agg cs ds2 hs2 h12 fun i x y hx hy => ?_
   have hi := (Array.getElem?_eq_some_iff.1 hx).1
   exact ih i x (ds[i]'(by omega)) hx (Array.getElem?_eq_getElem _) (h2 i x y hx hy)
 | tup cs ds hs h ih =>
  intro c h2
  cases h2 with
  | tup _ ds2 hs2 h2 =>
   refine .tup cs ds2 hs2 fun i x y hx hy => ?_
   have hi := (Array.getElem?_eq_some_iff.1 hx).1
   exact ih i x (ds[i]'(by omega)) hx (Array.getElem?_eq_getElem _) (h2 i x y hx hy)
 | fn f cs ds hs h ih =>
  intro c h2
  cases h2 with
  | fn _ _ ds2 hs2 h2 =>
   refine .fn f cs ds2 hs2 fun i x y hx hy => ?_
   have hi := (Array.getElem?_eq_some_iff.1 hx).1
   exact ih i x (ds[i]'(by omega)) hx (Array.getElem?_eq_getElem _) (h2 i x y hx hy)
theorem A9.cells_scal {J J' : Bk} {H H' : Hp} {v c : Value} (h : A9 J H v c) (hs : (Ez v).all Ev.scal = true) : A9 J' H' v c := by
 cases h with
 | agg cs ds hz h1 h =>
  refine .agg cs ds hz h1 fun i x y hx hy => ?_
  have hx2 : Ev.scal x = true := List.all_eq_true.1 hs x (by simpa [Ez] using Array.mem_of_getElem? hx)
  have := (h i x y hx hy).of_scal hx2
  subst this
  exact .scal hx2
 | tup cs ds hz h => simp [Ez, Ev.scal] at hs
 | fn f cs ds hz h => simp [Ez, Ev.scal] at hs
 | ptr id off gen o a h hg hv => simp [Ez, Ev.scal] at hs
 | sl id off e len cap o a ccap h hg hl hc hv => simp [Ez, Ev.scal] at hs
 | int k n => exact .int _ _
 | bool b => exact .bool _
 | str s => exact .str _
 | nptr => exact .nptr
 | nsl => exact .nsl
 | nfn => exact .nfn
theorem A9.flat {J J' : Bk} {H H' : Hp} {v c : Value} (h : A9 J H v c) (hs : A8 v = true) : A9 J' H' v c := by
 unfold A8 at hs
 split at hs
 ·exact h.cells_scal (by simpa [Ez] using hs)
 ·rename_i vs
  cases h with
  | tup _ ds hz h =>
   refine .tup vs ds hz fun i x y hx hy => (h i x y hx hy).cells_scal ?_
   exact List.all_eq_true.1 hs x (by simpa using Array.mem_of_getElem? hx)
 ·have := h.of_scal hs
  subst this
  exact .scal hs
theorem dN {B N : Nat} {J J' : Bk} {H H' : Hp} {w w' : World} {m : Md} (h0 : Dx B J H w) (ht : Tr B N J H w J' H' w') (hw : Dx B J' H' w') (hk : Kp m H H') (hn : m.nr = true) :
  ∃ J'', Tr B N J H w J'' (H'.take H.length) w' ∧ Dx B J'' (H'.take H.length) w' := by
 have hlen := hk.len
 have hget : ∀ id, id < H.length → (H'.take H.length)[id]? = H'[id]? := fun id hid => by rw [List.getElem?_take, if_pos hid]
 refine ⟨fun id => if id < H.length then J' id else none, ⟨fun id o ho => ?_, ht.frame, fun id l' hl => ?_, ht.grow, ht.os, ht.tape, ht.output⟩, ⟨fun id o ho => ?_, fun id id' l l' hne hB hl hl' => ?_, fun id hid => ?_⟩⟩
 ·have hid := (Em ho).1
  obtain ⟨o', h1, h2⟩ := ht.keep id o ho
  refine ⟨o', by rw [hget id hid]; exact h1, ?_⟩
  simp only [if_pos hid]
  exact h2
 ·split at hl
  ·exact ht.img id l' hl
  ·cases hl
 ·have hid : id < H.length := by
   have := (Em ho).1
   rw [List.length_take] at this
   omega
  rw [hget id hid] at ho
  obtain ⟨l, ds, e, lo, hi, a1, a2, a3, a4, a5, a6⟩ := hw.row id o ho
  refine ⟨l, ds, e, lo, hi, by simp only [if_pos hid]; exact a1, a2, a3, a4, fun i v hv => ?_, a6⟩
  obtain ⟨b1, d, b2, b3⟩ := a5 i v hv
  refine ⟨b1, d, b2, ?_⟩
  obtain ⟨o0, ho0, hmem⟩ := hk.nr hn id o hid ho
  rcases hmem v (List.mem_of_getElem? hv) with hs | hs
  ·have := b3.of_scal hs
   subst this
   exact .scal hs
  ·obtain ⟨k, hk2⟩ := List.getElem?_of_mem hs
   obtain ⟨_, _, _, _, _, _, _, _, _, c5, _⟩ := h0.row id o0 ho0
   obtain ⟨_, d0, _, r0⟩ := c5 k v hk2
   exact A9.cut (fun id2 hid2 => ⟨hget id2 hid2, by simp only [if_pos hid2]⟩) r0 b3
 ·split at hl
  ·split at hl'
   ·exact hw.uni id id' l l' hne hB hl hl'
   ·cases hl'
  ·cases hl
 ·have : H.length ≤ id := by
   rw [List.length_take] at hid
   omega
  show (if id < H.length then J' id else none) = none
  rw [if_neg (by omega)]
section
variable {P : Program} {B N nt : Nat} {E : Hb} {hv : Nat → Nat → Bool}
theorem dC {J : Bk} {H : Hp} {w : World} {vs : List Value} {cs : Array Value} (hw : Dx B J H w) (hl : A7 J H vs cs.toList) (hn : vs.length ≤ nt) :
  B9 B w.heap.size nt J { ρ := Cb vs, gn := 1, H := H } { tmps := cs ++ Array.replicate (nt - cs.size) undef, defers := [] } w := by
 have hsz : vs.length = cs.size := by rw [hl.1, Array.length_toList]
 refine ⟨hw, ⟨fun _ => none, ⟨fun t => ?_, fun _ _ _ h _ => by simp at h, fun _ _ h => by simp at h, fun t g cs' h => ?_, fun t t' g off h => ?_, Nat.one_pos⟩⟩, rfl, by simp; omega, Nat.le_refl _⟩
 ·unfold Pf
  dsimp only
  simp only [Cb]
  cases hv : vs[t]? with
  | none => trivial
  | some v =>
   have ht := (Em hv).1
   obtain ⟨y, hy, hr⟩ := hl.get hv
   dsimp only
   have : (cs ++ Array.replicate (nt - cs.size) undef).getD t undef = y := by
    rw [Array.getD_eq_getD_getElem?, Array.getElem?_append_left (by omega)]
    rw [Array.getElem?_toList] at hy
    rw [hy]
    rfl
   rw [this]
   exact hr
 ·dsimp only at h
  simp only [Cb] at h
  split at h <;> cases h
 ·dsimp only at h
  simp only [Cb] at h
  split at h <;> cases h
def Xv (tmps : Array Value) : ResultVar → Sem Value
 | .tmp t => pure (tmps.getD t undef)
 | .cell b t => do loadVar t (← asAddr (tmps.getD b undef))
theorem N7 (fn : Func) (tmps : Array Value) : results fn tmps = (do
  let vs ← fn.results.mapM (Xv tmps)
  pure (if h : vs.size = 1 then vs[0] else .tuple vs) : Sem Value) := by
 unfold results
 have : (fun r : ResultVar => match r with
  | .tmp t => pure (tmps.getD t undef)
  | .cell a t => do loadVar t (← asAddr (tmps.getD a undef)) : ResultVar → Sem Value) = Xv tmps := by
  funext r
  cases r <;> rfl
 rw [← this]
 rfl
theorem Uw {J : Bk} {s : St} {a : Act} {w : World} (R : B9 B N nt J s a w) : ∀ {rs : List ResultVar} {cs : List RV} {vs : List Value}, Nd P rs = some cs → Fd s cs = some vs →
  ∃ ws : List Value, (rs.mapM (Xv a.tmps)).run P w = .ok ws w ∧ A7 J s.H vs ws
 | [], cs, vs, h1, h2 => by
  simp only [Nd] at h1; cases h1
  simp only [Fd] at h2; cases h2
  exact ⟨[], by simp, .nil⟩
 | .tmp t :: rs, cs, vs, h1, h2 => by
  simp only [Nd] at h1
  split at h1
  ·rename_i cs' hc
   cases h1
   simp only [Fd] at h2
   split at h2
   ·rename_i v vs' e1 e2
    cases h2
    obtain ⟨ws, w1, w2⟩ := Uw R hc e2
    refine ⟨a.tmps.getD t undef :: ws, ?_, .cons (D7 R (x := .tmp t) rfl e1) w2⟩
    simp only [List.mapM_cons, Sem.run_bind, Xv, Sem.run_pure, Result.andThen_ok, w1]
   ·cases h2
  ·cases h1
 | .cell b t :: rs, cs, vs, h1, h2 => by
  simp only [Nd] at h1
  split at h1
  ·rename_i n agg cs' hi hc
   cases h1
   simp only [Fd] at h2
   split at h2
   ·rename_i v vs' e1 e2
    cases h2
    obtain ⟨ws, w1, w2⟩ := Uw R hc e2
    simp only [Mr] at e1
    split at e1
    ·rename_i v' s1 hl
     cases e1
     unfold Fe at hl
     split at hl
     ·rename_i ad ha
      split at hl
      ·rename_i os off hr
       obtain ⟨p, v2, fv, hp, hrun, hfv, hs1, hvr⟩ := Wu (P := P) R hi (fun own ho => Mg R ho (x := .tmp b) rfl ha) hr hl
       cases hfv
       refine ⟨v2 :: ws, ?_, .cons hvr w2⟩
       have hp' : a.tmps.getD b undef = .pointer (some p) := hp
       simp only [List.mapM_cons, Sem.run_bind, Xv, hp', asAddr, Sem.run_pure, Result.andThen_ok, hrun, w1]
      ·cases hl
     ·cases hl
    ·cases e1
   ·cases h2
  ·cases h1
theorem cI {J : Bk} {s : St} {a : Act} {w : World} (R : B9 B N nt J s a w) {fn : Func} {cs : List RV} {v : Value} (h1 : Nd P fn.results.toList = some cs) (h2 : D5 s cs = some v) : ∃ c, (results fn a.tmps).run P w = .ok c w ∧ A9 J s.H v c := by
 unfold D5 at h2
 have main : ∀ vs, Fd s cs = some vs → ∃ ws : List Value, (fn.results.mapM (Xv a.tmps)).run P w = .ok ws.toArray w ∧ A7 J s.H vs ws := fun vs hvs => by
  obtain ⟨ws, w1, w2⟩ := Uw (P := P) R h1 hvs
  refine ⟨ws, ?_, w2⟩
  rw [Array.mapM_eq_mapM_toList, Sem.run_map, w1]
  rfl
 split at h2
 ·rename_i u hu
  cases h2
  obtain ⟨ws, w1, w2⟩ := main _ hu
  have hl := w2.1
  obtain ⟨y, rfl⟩ : ∃ y, ws = [y] := by
   cases ws with
   | nil => simp at hl
   | cons y l => cases l with
    | nil => exact ⟨y, rfl⟩
    | cons z l => simp at hl
  refine ⟨y, ?_, w2.2 0 v y rfl rfl⟩
  rw [N7]
  simp only [Sem.run_bind, w1, Result.andThen_ok]
  simp
 ·rename_i vs hne hu
  cases h2
  obtain ⟨ws, w1, w2⟩ := main _ hu
  refine ⟨.tuple ws.toArray, ?_, .tup _ _ (by simpa using w2.1) fun i x y hx hy => w2.2 i x y (by simpa using hx) (by simpa using hy)⟩
  rw [N7]
  simp only [Sem.run_bind, w1, Result.andThen_ok]
  have : ¬ (ws.toArray.size = 1) := fun e => by
   have hl := w2.1
   cases vs with
   | nil => simp at hl e; omega
   | cons u l => cases l with
    | nil => exact hne u rfl
    | cons z l => simp at hl e; omega
  rw [dif_neg this]
  rfl
 ·cases h2
def Pv (P : Program) (B : Nat) (E : Hb) : Prop :=
 ∀ f p, E.prim f = some p → ∀ m vs H r H', p m vs H = some (r, H') → (∀ id, m.wr id = true → B ≤ id) → B ≤ H.length →
  (∃ fn, P.funcs[f]? = some fn ∧ fn.body.isSome = true ∧ (fn.name == "runtime.NumGoroutine") = false) ∧
  ∀ (J : Bk) (w : World) (cs : Array Value), Dx B J H w → A7 J H vs cs.toList →
   Calls P f cs w fun e w' => ∃ v J', e = .returned v ∧ Tr B w.heap.size J H w J' H' w' ∧ Dx B J' H' w' ∧ A9 J' H' r v
theorem fA (hmix : P.follows .mixedOrders = true) (hE : E.fns = Py P hv) (hpu : D2 P ∨ ∀ f d, hv f d = false) (hp : Pv P B E) (hpk : U5 E) : ∀ k, L5 P B (K4 E k) := by
 intro k
 induction k using Nat.strongRecOn with
 | _ k ih =>
  intro m f vs H r H' h hm hB
  cases k with
  | zero => simp [K4] at h
  | succ k =>
   rw [K4] at h
   split at h
   ·rename_i p hpf
    exact hp f p hpf m vs H r H' h hm hB
   ·split at h
    ·cases h
    ·rename_i cf hcf
     rw [hE] at hcf
     unfold Py at hcf
     split at hcf
     ·rename_i fn hfn
      split at hcf
      ·cases hcf
      ·rename_i hname
       unfold eL at hcf
       split at hcf
       ·cases hcf
       ·rename_i b hb
        split at hcf
        ·rename_i cc rr hcc hrr
         cases hcf
         refine ⟨⟨fn, hfn, by rw [hb]; rfl, by simpa using hname⟩, fun J w cs hw hl => ?_⟩
         split at h
         ·rename_i hlen
          dsimp only at h hlen
          cases he : Du E k { m with nr := m.nr || E.tr f } cc { ρ := Cb vs, gn := 1, H := H } with
          | none => rw [he] at h; cases h
          | some q =>
           obtain ⟨ex, s⟩ := q
           rw [he] at h
           have hkp := Z5 hpk
           have R0 := dC (nt := fn.ntmps) hw hl hlen
           have hkb := (hkp k).2 _ _ _ _ _ he
           refine calls_of_wp hfn hb ?_
           refine yN (nt := fn.ntmps) (N := w.heap.size) (k := k) (m := { m with nr := m.nr || E.tr f }) hmix (hpu.imp id fun h => h f) (fun j hj => ih j (by omega)) (fun j => hkp j) hm k (Nat.le_refl _) hcc he hB R0 fun J' a' w' t1 R1 => ?_
           have fin : ∀ v, D5 s rr = some v → (r = v ∧ H' = s.H ∨ r = v ∧ A8 v = true ∧ E.tr f = true ∧ H' = s.H.take H.length) → bodyPost P fn (fun e w' => ∃ v J', e = .returned v ∧ Tr B w.heap.size J H w J' H' w' ∧ Dx B J' H' w' ∧ A9 J' H' r v) .normal a' w' := fun v hv hcase => by
            obtain ⟨c, r1, r2⟩ := cI R1 hrr hv
            refine ⟨R1.df, c, r1, ?_⟩
            rcases hcase with ⟨rfl, rfl⟩ | ⟨rfl, hfl, htr, rfl⟩
            ·exact ⟨c, J', rfl, t1, R1.wr, r2⟩
            ·obtain ⟨J'', c1, c2⟩ := dN (m := { m with nr := m.nr || E.tr f }) hw t1 R1.wr hkb (by simp [htr])
             exact ⟨c, J'', rfl, c1, c2, r2.flat hfl⟩
           have hcase : ex ≠ .exit 0 ∨ True := .inr trivial
           have fin2 : (∃ v, D5 s rr = some v ∧ (r = v ∧ H' = s.H ∨ r = v ∧ A8 v = true ∧ E.tr f = true ∧ H' = s.H.take H.length)) → ∀ e : Exit, (e = .normal ∨ e = .ret) → bodyPost P fn (fun e w' => ∃ v J', e = .returned v ∧ Tr B w.heap.size J H w J' H' w' ∧ Dx B J' H' w' ∧ A9 J' H' r v) e a' w' := fun ⟨v, h1, h2⟩ e he => by
            have := fin v h1 h2
            rcases he with rfl | rfl
            ·exact this
            ·exact this
           have hres : (match D5 s rr with
             | some v => if E.tr f = true then (if A8 v = true then some (v, s.H.take H.length) else none) else some (v, s.H)
             | none => none) = some (r, H') → ∃ v, D5 s rr = some v ∧ (r = v ∧ H' = s.H ∨ r = v ∧ A8 v = true ∧ E.tr f = true ∧ H' = s.H.take H.length) := fun h => by
            split at h
            ·rename_i v hv
             refine ⟨v, hv, ?_⟩
             split at h
             ·rename_i htr
              split at h
              ·rename_i hfl
               cases h
               exact .inr ⟨rfl, hfl, htr, rfl⟩
              ·cases h
             ·cases h; exact .inl ⟨rfl, rfl⟩
            ·cases h
           cases ex with
           | normal => exact fin2 (hres h) _ (.inl rfl)
           | ret => exact fin2 (hres h) _ (.inr rfl)
           | exit id => cases h
         ·cases h
        ·cases hcf
     ·cases hcf
theorem X0 {J : Bk} {H H' : Hp} {w : World} {vs : List Value} {cs : Array Value} {k f : Nat} {b : Bool} (hmix : P.follows .mixedOrders = true) (hE : E.fns = Py P hv) (hpu : D2 P ∨ ∀ f d, hv f d = false) (hp : Pv P H.length E) (hpk : U5 E)
  (h : K4 E k { wr := fun id => decide (H.length ≤ id), nr := false } f vs H = some (.bool b, H')) (hw : Dx H.length J H w) (hl : A7 J H vs cs.toList) :
  Calls P f cs w fun e w' => e = .returned (.bool b) ∧ RowKit.Below w.heap.size w w' := by
 obtain ⟨_, hc⟩ := fA hmix hE hpu hp hpk k _ _ _ _ _ _ h (fun id hid => by simpa using hid) (Nat.le_refl _)
 refine (hc J w cs hw hl).mono fun e w' ⟨v, J', he, t1, t2, t3⟩ => ?_
 rw [t3.bool_inv] at he
 refine ⟨he, t1.os, t1.tape, t1.output, t1.grow, fun b hb => t1.frame b hb fun id l hl hB => ?_⟩
 rw [hw.dom id hB] at hl
 cases hl
end
def Ci (E : Hb) (m : Md) (f : Nat) (vs : List Value) (H : Hp) (Q : Value → Hp → Prop) : Prop :=
 ∃ k r H', K4 E k m f vs H = some (r, H') ∧ Q r H'
def dV (E : Hb) (m : Md) (c : CC) (s : St) (Q : Ex → St → Prop) : Prop :=
 ∃ k e s', Du E k m c s = some (e, s') ∧ Q e s'
def Ss {α : Type} (x : Option α) (Q : α → Prop) : Prop :=
 match x with
 | some a => Q a
 | none => False
def Uy (E : Hb) (m : Md) (draw : Bool) (s : St) (k : CK) (Q : FV → St → Prop) : Prop :=
 match k with
 | .call f args => Ss (Dw s.ρ args) fun vs => Ci E (if draw then m.drawn E.pw s.H f vs else m) f vs s.H fun r H => Q (.val r) { s with H := H }
 | .callV x args =>
  match Av s.ρ x with
  | some (.func (.func f) first caps) => Ss (Dw s.ρ args) fun vs => first.size = 0 ∧ Ci E (if draw then m.drawn E.pw s.H f (vs ++ caps.toList) else m) f (vs ++ caps.toList) s.H fun r H => Q (.val r) { s with H := H }
  | _ => False
 | k => Ss (Ai m s k) fun p => Q p.1 p.2
def Br (c : Bool) (P Q : Prop) : Prop := (c = true → P) ∧ (c = false → Q)
def Ux (E : Hb) (m : Md) (draw : Bool) (s : St) (o : CO) (Q : St → Prop) : Prop :=
 match o.g with
 | none => Uy E m draw s o.k fun v s' => Q { s' with ρ := Ah s'.ρ o.dst v }
 | some (t, b) =>
  match s.ρ t with
  | .val (.bool c) => Br (c == b) (Uy E m draw s o.k fun v s' => Q { s' with ρ := Ah s'.ρ o.dst v }) (Q { s with ρ := Ah s.ρ o.dst (.val (.tuple #[])) })
  | .val (.tuple _) => Q { s with ρ := Ah s.ρ o.dst (.val (.tuple #[])) }
  | _ => False
theorem iM {E : Hb} {m : Md} {draw : Bool} {s : St} {o : CO} {Q : St → Prop} (h : Ux E m draw s o Q) :
  match o.on s.ρ with
  | some true => Uy E m draw s o.k fun v s' => Q { s' with ρ := Ah s'.ρ o.dst v }
  | some false => Q { s with ρ := Ah s.ρ o.dst (.val (.tuple #[])) }
  | none => False := by
 unfold Ux at h
 unfold CO.on
 split at h
 ·rename_i hg
  rw [hg]
  exact h
 ·rename_i t b hg
  rw [hg]
  simp only
  split at h
  ·rename_i c hc
   rw [hc]
   simp only
   cases hcb : c == b with
   | true => exact h.1 hcb
   | false => exact h.2 hcb
  ·rename_i c hc
   rw [hc]
   exact h
  ·exact h.elim
def dS (E : Hb) (m : Md) : List CO → St → (St → Prop) → Prop
 | [], s, Q => Q s
 | o :: os, s, Q => Ux E m false s o fun s' => dS E m os s' Q
def Wp (E : Hb) (m : Md) : List CO → St → List (CO × K3) → (St → Prop) → Prop
 | [], s, acc, Q => B0 acc.reverse = true ∧ Q s
 | o :: os, s, acc, Q => Ux E m true s o fun s' => Wp E m os s' ((o, A1 E.pw s o) :: acc) Q
def L6 (E : Hb) (m : Md) : CC → St → (Ex → St → Prop) → Prop
 | .skip, s, Q => Q .normal s
 | .exit id, s, Q => Q (.exit id) s
 | .ret, s, Q => Q .ret s
 | .reg false ops, s, Q => dS E m ops s (Q .normal)
 | .reg true ops, s, Q => Wp E m ops s [] (Q .normal)
 | .seq a b, s, Q => L6 E m a s fun e s' =>
  match e with
  | .normal => L6 E m b s' Q
  | .exit j => Q (.exit j) s'
  | .ret => Q .ret s'
 | .cond c a b, s, Q =>
  match Av s.ρ c with
  | some (.bool t) => Br t (L6 E m a s Q) (L6 E m b s Q)
  | _ => False
 | .block id c, s, Q => L6 E m c s fun e s' =>
  match e with
  | .normal => Q .normal s'
  | .exit j => if j = id then Q .normal s' else Q (.exit j) s'
  | .ret => Q .ret s'
 | .loop c, s, Q => dV E m (.loop c) s Q
section
variable {E : Hb} {m : Md}
theorem Ci.mono {f : Nat} {vs : List Value} {H : Hp} {Q Q' : Value → Hp → Prop} (h : Ci E m f vs H Q) (hq : ∀ r H', Q r H' → Q' r H') : Ci E m f vs H Q' := by
 obtain ⟨k, r, H', h1, h2⟩ := h
 exact ⟨k, r, H', h1, hq _ _ h2⟩
theorem dV.mono {c : CC} {s : St} {Q Q' : Ex → St → Prop} (h : dV E m c s Q) (hq : ∀ e s', Q e s' → Q' e s') : dV E m c s Q' := by
 obtain ⟨k, r, H', h1, h2⟩ := h
 exact ⟨k, r, H', h1, hq _ _ h2⟩
theorem aK {draw : Bool} {s : St} {o : CO} {Q : St → Prop} (h : Ux E m draw s o Q) : ∃ k s', (∀ d, C3 E m draw (K4 E (k + d)) s o = some s') ∧ Q s' := by
 have h := iM h
 unfold C3
 split at h
 ·rename_i ho
  have key : ∀ {f : Nat} {vs : List Value}, callee s o.k = some (f, vs) → Ci E (if draw then m.drawn E.pw s.H f vs else m) f vs s.H (fun r H => Q { s with H := H, ρ := Ah s.ρ o.dst (.val r) }) →
    ∃ k s', (∀ d, (match some true with
     | some true => match Bp E m draw (K4 E (k + d)) s o.k with
      | some (v, s') => some { s' with ρ := Ah s'.ρ o.dst v }
      | none => none
     | some false => some { s with ρ := Ah s.ρ o.dst (.val (.tuple #[])) }
     | none => none) = some s') ∧ Q s' := fun {f vs} hc hf => by
   obtain ⟨k, r, H', h1, h2⟩ := hf
   refine ⟨k, _, fun d => ?_, h2⟩
   unfold Bp
   rw [hc]
   simp only
   rw [Lt d h1]
  rw [ho]
  revert key h
  cases hk : o.k with
  | call f args =>
   intro h key
   simp only [Uy] at h
   cases ha : Dw s.ρ args with
   | none => rw [ha] at h; exact h.elim
   | some vs => rw [ha] at h; exact key (by simp only [callee, ha]) h
  | callV x args =>
   intro h key
   simp only [Uy] at h
   split at h
   ·rename_i f first caps hx
    cases ha : Dw s.ρ args with
    | none => rw [ha] at h; exact h.elim
    | some vs => rw [ha] at h; exact key (by simp only [callee, ha, hx]; rw [if_pos h.1]) h.2
   ·exact h.elim
  | _ =>
   intro h key
   simp only [Uy] at h
   unfold Ss at h
   split at h
   ·rename_i p hp
    refine ⟨0, _, fun d => ?_, h⟩
    unfold Bp
    simp only [callee]
    rw [hp]
   ·exact h.elim
 ·rename_i ho
  rw [ho]
  exact ⟨0, _, fun d => rfl, h⟩
 ·exact h.elim
theorem Yx : ∀ {os : List CO} {s : St} {Q : St → Prop}, dS E m os s Q → ∃ k s', (∀ d, Gh E m false (K4 E (k + d)) os s = some s') ∧ Q s'
 | [], s, Q, h => ⟨0, s, fun d => rfl, h⟩
 | o :: os, s, Q, h => by
  simp only [dS] at h
  obtain ⟨k1, s1, h1, h2⟩ := aK h
  obtain ⟨k2, s2, h3, h4⟩ := Yx h2
  refine ⟨k1 + k2, s2, fun d => ?_, h4⟩
  unfold Gh
  rw [Nat.add_assoc, h1 (k2 + d)]
  simp only
  have := h3 (k1 + d)
  rw [show k1 + (k2 + d) = k2 + (k1 + d) by omega]
  exact this
theorem Yn : ∀ {os : List CO} {s : St} {acc : List (CO × K3)} {Q : St → Prop}, Wp E m os s acc Q → ∃ k s' l, (∀ d, Gh E m true (K4 E (k + d)) os s = some s' ∧ Ii E m (K4 E (k + d)) os s = l) ∧ B0 (acc.reverse ++ l) = true ∧ Q s'
 | [], s, acc, Q, h => ⟨0, s, [], fun d => ⟨rfl, rfl⟩, by simpa using h.1, h.2⟩
 | o :: os, s, acc, Q, h => by
  simp only [Wp] at h
  obtain ⟨k1, s1, h1, h2⟩ := aK h
  obtain ⟨k2, s2, l, h3, h4, h5⟩ := Yn h2
  refine ⟨k1 + k2, s2, (o, A1 E.pw s o) :: l, fun d => ?_, by simpa using h4, h5⟩
  have := h3 (k1 + d)
  rw [show k2 + (k1 + d) = k1 + k2 + d by omega] at this
  have h1' := h1 (k2 + d)
  rw [← Nat.add_assoc] at h1'
  unfold Gh Ii
  rw [h1']
  exact ⟨this.1, by simp only [this.2]⟩
theorem Km : ∀ {c : CC} {s : St} {Q : Ex → St → Prop}, L6 E m c s Q → dV E m c s Q
 | .skip, s, Q, h => ⟨1, _, _, rfl, h⟩
 | .exit id, s, Q, h => ⟨1, _, _, rfl, h⟩
 | .ret, s, Q, h => ⟨1, _, _, rfl, h⟩
 | .reg false ops, s, Q, h => by
  simp only [L6] at h
  obtain ⟨k, s', h1, h2⟩ := Yx h
  have h1 := h1 0
  refine ⟨k + 1, .normal, s', ?_, h2⟩
  rw [Du]
  simp only [Bool.false_eq_true, false_and, if_false]
  rw [Nat.add_zero] at h1
  rw [h1]
 | .reg true ops, s, Q, h => by
  simp only [L6] at h
  obtain ⟨k, s', l, h1, h2, h3⟩ := Yn h
  have h1 := h1 0
  rw [Nat.add_zero] at h1
  refine ⟨k + 1, .normal, s', ?_, h3⟩
  rw [Du, h1.2, h1.1]
  simp only [List.reverse_nil, List.nil_append] at h2
  simp [h2]
 | .seq a b, s, Q, h => by
  simp only [L6] at h
  obtain ⟨k, e, s', h1, h2⟩ := Km h
  cases e with
  | normal =>
   obtain ⟨k2, e2, s2, h3, h4⟩ := Km h2
   refine ⟨k + k2 + 1, e2, s2, ?_, h4⟩
   rw [Du, Hw k2 h1]
   simp only
   rw [Nat.add_comm k k2]
   exact Hw k h3
  | exit j => exact ⟨k + 1, _, _, by rw [Du, h1], h2⟩
  | ret => exact ⟨k + 1, _, _, by rw [Du, h1], h2⟩
 | .cond c a b, s, Q, h => by
  simp only [L6] at h
  split at h
  ·rename_i t ht
   cases t with
   | true =>
    obtain ⟨k, e, s', h1, h2⟩ := Km (h.1 rfl)
    exact ⟨k + 1, e, s', by rw [Du, ht]; exact h1, h2⟩
   | false =>
    obtain ⟨k, e, s', h1, h2⟩ := Km (h.2 rfl)
    exact ⟨k + 1, e, s', by rw [Du, ht]; exact h1, h2⟩
  ·exact h.elim
 | .block id c, s, Q, h => by
  simp only [L6] at h
  obtain ⟨k, e, s', h1, h2⟩ := Km h
  cases e with
  | normal => exact ⟨k + 1, _, _, by rw [Du, h1], h2⟩
  | exit j =>
   by_cases hj : j = id
   ·exact ⟨k + 1, .normal, s', by rw [Du, h1]; simp only [if_pos hj], by simpa only [if_pos hj] using h2⟩
   ·exact ⟨k + 1, .exit j, s', by rw [Du, h1]; simp only [if_neg hj], by simpa only [if_neg hj] using h2⟩
  | ret => exact ⟨k + 1, _, _, by rw [Du, h1], h2⟩
 | .loop c, s, Q, h => h
theorem eG {c : CC} {Q : Ex → St → Prop} (I : Nat → St → Prop) (step : ∀ n s, I n s → L6 E m c s fun e s' => match e with
  | .normal => ∃ n' < n, I n' s'
  | .exit j => Q (.exit j) s'
  | .ret => Q .ret s') : ∀ n s, I n s → dV E m (.loop c) s Q := by
 intro n
 induction n using Nat.strongRecOn with
 | _ n ih =>
  intro s h
  obtain ⟨k, e, s', h1, h2⟩ := Km (step n s h)
  cases e with
  | normal =>
   obtain ⟨n', hn, hi⟩ := h2
   obtain ⟨k2, e2, s2, h3, h4⟩ := ih n' hn s' hi
   refine ⟨k + k2 + 1, e2, s2, ?_, h4⟩
   rw [Du, Hw k2 h1]
   simp only
   rw [Nat.add_comm k k2]
   exact Hw k h3
  | exit j => exact ⟨k + 1, _, _, by rw [Du, h1], h2⟩
  | ret => exact ⟨k + 1, _, _, by rw [Du, h1], h2⟩
def Nn (E : Hb) (f : Nat) (res : List RV) (H : Hp) (Q : Value → Hp → Prop) (e : Ex) (s : St) : Prop :=
 match e with
 | .exit _ => False
 | _ => Ss (D5 s res) fun v => if E.tr f = true then A8 v = true ∧ Q v (s.H.take H.length) else Q v s.H
theorem Ci.intro {f : Nat} {cf : CF} {vs : List Value} {H : Hp} {Q : Value → Hp → Prop} (hp : E.prim f = none) (hf : E.fns f = some cf) (hl : vs.length ≤ cf.nt)
  (h : dV E { m with nr := m.nr || E.tr f } cf.body { ρ := Cb vs, gn := 1, H := H } (Nn E f cf.res H Q)) : Ci E m f vs H Q := by
 obtain ⟨k, e, s', h1, h2⟩ := h
 have fin : e ≠ .exit 0 ∨ True := .inr trivial
 have main : Ss (D5 s' cf.res) (fun v => if E.tr f = true then A8 v = true ∧ Q v (s'.H.take H.length) else Q v s'.H) → (match D5 s' cf.res with
   | some v => if E.tr f then (if A8 v then some (v, s'.H.take H.length) else none) else some (v, s'.H)
   | none => none) = K4 E (k + 1) m f vs H → Ci E m f vs H Q := fun h2 h3 => by
  unfold Ss at h2
  cases hr : D5 s' cf.res with
  | none => rw [hr] at h2; exact h2.elim
  | some v =>
   rw [hr] at h2 h3
   simp only at h2 h3
   by_cases ht : E.tr f = true
   ·rw [if_pos ht] at h2 h3
    rw [if_pos h2.1] at h3
    exact ⟨k + 1, _, _, h3.symm, h2.2⟩
   ·rw [if_neg ht] at h2 h3
    exact ⟨k + 1, _, _, h3.symm, h2⟩
 cases e with
 | exit j => exact h2.elim
 | normal => exact main h2 (by rw [K4, hp]; simp only [hf, if_pos hl, h1]; cases D5 s' cf.res <;> rfl)
 | ret => exact main h2 (by rw [K4, hp]; simp only [hf, if_pos hl, h1]; cases D5 s' cf.res <;> rfl)
end
def C5 (ρ : Nat → FV) (o : CO) : List Nat × Bool :=
 match o.k with
 | .load _ _ x => ((Bv ρ x).1, (Bv ρ x).2.isEmpty)
 | .fadr _ x | .iadrA _ _ x _ => ((Bv ρ x).1, true)
 | .b2s _ => ([], false)
 | .store _ x _ => ((Bv ρ x).1, true)
 | _ => ([], true)
def Ol (o : CO) (bs : List Nat × Bool) : Option (Bool × List Nat × List Nat) :=
 match o.k with
 | .appP _ _ t _ | .buildP t _ _ _ => some (true, Io o ++ (o.k.ops.flatMap F4), o.dst.toList ++ [t])
 | .store .. => if bs.1.isEmpty then some (true, Io o ++ (o.k.ops.flatMap F4), o.dst.toList) else some (false, Io o ++ (o.k.ops.flatMap F4 ++ bs.1), o.dst.toList ++ bs.1)
 | .newO _ | .boxO _ | .mkO .. | .makeS .. | .s2b .. | .app .. | .cpy .. | .clr .. => some (true, Io o ++ (o.k.ops.flatMap F4), o.dst.toList)
 | .call f args => some (true, Io o ++ (args.flatMap F4), o.dst.toList)
 | .callV x args => some (true, Io o ++ ((x :: args).flatMap F4), o.dst.toList)
 | k => some (false, Io o ++ (k.ops.flatMap F4 ++ bs.1), o.dst.toList)
def Vp (o : CO) : Bool :=
 match o.k with
 | .newV _ | .boxV _ => true
 | _ => false
def kI (o : CO) (bs : List Nat × Bool) (o' : CO) (bs' : List Nat × Bool) : Bool :=
 o'.pre.contains o.ix ||
 match Ol o bs, Ol o' bs' with
 | some a, some b => J9 a.2.2 b.2.1 && J9 b.2.2 a.2.1 && J9 a.2.2 b.2.2 && !(a.1 && b.1) && (!a.1 || bs'.2) && (!b.1 || bs.2) && !(Vp o && Vp o')
 | _, _ => false
def qK : List CO → List (List Nat × Bool) → Bool
 | [], [] => true
 | o :: os, b :: bs => ((os.zip bs).all fun p => kI o b p.1 p.2) && qK os bs
 | _, _ => false
def Pk (E : Hb) (m : Md) (ops : List CO) : List CO → St → List (List Nat × Bool) → (St → Prop) → Prop
 | [], s, acc, Q => qK ops acc.reverse = true ∧ Q s
 | o :: os, s, acc, Q => Ux E m true s o fun s' => Pk E m ops os s' (C5 s.ρ o :: acc) Q
section
variable {E : Hb} {m : Md}
theorem Hq {a b a' b' : List Nat} (h : J9 a b = true) (ha : ∀ x ∈ a', x ∈ a) (hb : ∀ x ∈ b', x ∈ b) : J9 a' b' = true := by
 unfold J9 at *
 rw [List.all_eq_true] at *
 intro x hx
 have := h x (ha x hx)
 simp only [List.contains_eq_mem, Bool.not_eq_true', decide_eq_false_iff_not] at *
 exact fun hm => this (hb x hm)
theorem Qi {pw : Nat → Bool} {s : St} {o : CO} {a : Bool × List Nat × List Nat} (h : Ol o (C5 s.ρ o) = some a) :
  (a.1 = false → (A1 pw s o).he = 0) ∧ ((A1 pw s o).gn = true → Vp o = true) ∧ (∀ x ∈ (A1 pw s o).rd, x ∈ a.2.1) ∧ (∀ x ∈ (A1 pw s o).wt, x ∈ a.2.2) ∧ ((C5 s.ρ o).2 = true → (A1 pw s o).hr = []) := by
 unfold A1
 have full : (a.1 = false → (Aj pw s o.k).he = 0) ∧ ((Aj pw s o.k).gn = true → Vp o = true) ∧ (∀ x ∈ Io o ++ (Aj pw s o.k).rd, x ∈ a.2.1) ∧ (∀ x ∈ o.dst.toList ++ (Aj pw s o.k).wt, x ∈ a.2.2) ∧ ((C5 s.ρ o).2 = true → (Aj pw s o.k).hr = []) := by
  have call : ∀ {k : CK}, o.k = k → (∃ f args, k = .call f args) ∨ (∃ x args, k = .callV x args) → a = (true, Io o ++ (k.ops.flatMap F4), o.dst.toList) →
    (a.1 = false → (Aj pw s o.k).he = 0) ∧ ((Aj pw s o.k).gn = true → Vp o = true) ∧ (∀ x ∈ Io o ++ (Aj pw s o.k).rd, x ∈ a.2.1) ∧ (∀ x ∈ o.dst.toList ++ (Aj pw s o.k).wt, x ∈ a.2.2) ∧ ((C5 s.ρ o).2 = true → (Aj pw s o.k).hr = []) := by
   rintro k hk hc rfl
   rw [hk]
   have : (Aj pw s k).gn = false ∧ (Aj pw s k).rd = k.ops.flatMap F4 ∧ (Aj pw s k).wt = [] ∧ (Aj pw s k).hr = [] := by
    rcases hc with ⟨f, args, rfl⟩ | ⟨x, args, rfl⟩ <;> unfold Aj <;> simp only <;> split
    ·split <;> exact ⟨rfl, rfl, rfl, rfl⟩
    ·exact ⟨rfl, rfl, rfl, rfl⟩
    ·split <;> exact ⟨rfl, rfl, rfl, rfl⟩
    ·exact ⟨rfl, rfl, rfl, rfl⟩
   obtain ⟨h1, h2, h3, h4⟩ := this
   rw [h1, h2, h3, h4]
   exact ⟨fun h => (Bool.noConfusion h), fun h => (Bool.noConfusion h), fun x hx => hx, fun x hx => by simpa using hx, fun _ => rfl⟩
  cases hk : o.k with
  | call f args => exact call hk (.inl ⟨_, _, rfl⟩) (by unfold Ol at h; rw [hk] at h; simp only [Option.some.injEq] at h; rw [← h]; rfl) |> fun h => by rw [hk] at h; exact h
  | callV x args => exact call hk (.inr ⟨_, _, rfl⟩) (by unfold Ol at h; rw [hk] at h; simp only [Option.some.injEq] at h; rw [← h]; rfl) |> fun h => by rw [hk] at h; exact h
  | store n x y =>
   unfold Ol C5 at h
   unfold C5 Aj
   rw [hk] at h ⊢
   simp only at h ⊢
   unfold Bv at h
   cases hadr : Jz s.ρ x with
   | none =>
    rw [hadr] at h
    simp only [List.isEmpty_nil, if_true, Option.some.injEq] at h
    subst h
    simp
   | some ad =>
    cases ad with
    | hp id p e =>
     rw [hadr] at h
     simp only [List.isEmpty_nil, if_true, Option.some.injEq] at h
     subst h
     simp
    | box t p e =>
     rw [hadr] at h
     simp only [List.isEmpty_cons, if_false, Option.some.injEq, Bool.false_eq_true] at h
     subst h
     simp
  | _ =>
   unfold Ol C5 at h
   unfold C5 Aj
   rw [hk] at h ⊢
   first
    | (simp only [reduceCtorEq] at h; done)
    | (simp only [Option.some.injEq] at h; subst h; simp [Vp, hk])
 have off : (∀ x ∈ Io o, x ∈ a.2.1) ∧ ∀ x ∈ o.dst.toList, x ∈ a.2.2 := ⟨fun x hx => full.2.2.1 x (List.mem_append_left _ hx), fun x hx => full.2.2.2.1 x (List.mem_append_left _ hx)⟩
 split
 ·exact full
 ·exact ⟨fun _ => rfl, fun h => (Bool.noConfusion h), off.1, off.2, fun _ => rfl⟩
theorem L0 {a b : K3} (h : b.hr = []) : a.calm b = true := by
 unfold K3.calm
 rw [h]
 split <;> rfl
theorem Vc {pw : Nat → Bool} {s s' : St} {o o' : CO} (h : kI o (C5 s.ρ o) o' (C5 s'.ρ o') = true) : (o'.pre.contains o.ix || (A1 pw s o).apart (A1 pw s' o')) = true := by
 unfold kI at h
 rw [Bool.or_eq_true] at h ⊢
 rcases h with h | h
 ·exact .inl h
 ·refine .inr ?_
  split at h
  ·rename_i a b ha hb
   obtain ⟨a1, a2, a3, a4, a5⟩ := Qi (pw := pw) ha
   obtain ⟨b1, b2, b3, b4, b5⟩ := Qi (pw := pw) hb
   simp only [Bool.and_eq_true] at h
   obtain ⟨⟨⟨⟨⟨⟨h1, h2⟩, h3⟩, h4⟩, h5⟩, h6⟩, h8⟩ := h
   unfold K3.apart
   have c1 : (A1 pw s o).calm (A1 pw s' o') = true := by
    cases ha1 : a.1 with
    | false => unfold K3.calm; rw [a1 ha1]; rfl
    | true => exact L0 (b5 (by rw [ha1] at h5; simpa using h5))
   have c2 : (A1 pw s' o').calm (A1 pw s o) = true := by
    cases hb1 : b.1 with
    | false => unfold K3.calm; rw [b1 hb1]; rfl
    | true => exact L0 (a5 (by rw [hb1] at h6; simpa using h6))
   have c3 : ((A1 pw s o).he == 0 || (A1 pw s' o').he == 0) = true := by
    cases ha1 : a.1 with
    | false => rw [a1 ha1]; rfl
    | true =>
     rw [ha1] at h4
     rw [b1 (by simpa using h4)]
     simp
   have c4 : (!((A1 pw s o).gn && (A1 pw s' o').gn)) = true := by
    cases g1 : (A1 pw s o).gn with
    | false => rfl
    | true =>
     cases g2 : (A1 pw s' o').gn with
     | false => rfl
     | true =>
      rw [a2 g1, b2 g2] at h8
      exact absurd h8 (by decide)
   rw [c1, c2, c3, c4, Hq h1 a4 b3, Hq h2 b4 a3, Hq h3 a4 b4]
   rfl
  ·cases h
theorem Pt {pw : Nat → Bool} : ∀ {l : List (CO × St)}, qK (l.map (·.1)) (l.map fun p => C5 p.2.ρ p.1) = true → B0 (l.map fun p => (p.1, A1 pw p.2 p.1)) = true
 | [], _ => rfl
 | (o, s) :: l, h => by
  simp only [List.map_cons, qK, Bool.and_eq_true] at h
  simp only [List.map_cons, B0, Bool.and_eq_true]
  refine ⟨?_, Pt h.2⟩
  have h1 := h.1
  rw [List.zip_map', List.all_eq_true] at h1
  rw [List.all_eq_true]
  intro p hp
  obtain ⟨q, hq, rfl⟩ := List.mem_map.1 hp
  exact Vc (h1 _ (List.mem_map.2 ⟨q, hq, rfl⟩))
theorem Tw {draw : Bool} {s : St} {k : CK} {Q Q' : FV → St → Prop} (h : Uy E m draw s k Q) (hq : ∀ v s', Q v s' → Q' v s') : Uy E m draw s k Q' := by
 revert h
 cases k with
 | call f args =>
  simp only [Uy]
  cases Dw s.ρ args with
  | none => exact fun h => h
  | some vs => exact fun h => Ci.mono h fun _ _ => hq _ _
 | callV x args =>
  simp only [Uy]
  intro h
  split at h
  ·cases ha : Dw s.ρ args with
   | none => rw [ha] at h; exact h
   | some vs => rw [ha] at h; exact ⟨h.1, Ci.mono h.2 fun _ _ => hq _ _⟩
  ·exact h.elim
 | _ =>
  simp only [Uy]
  intro h
  unfold Ss at *
  split at h
  ·exact hq _ _ h
  ·exact h.elim
theorem Fw {draw : Bool} {s : St} {o : CO} {Q Q' : St → Prop} (h : Ux E m draw s o Q) (hq : ∀ s', Q s' → Q' s') : Ux E m draw s o Q' := by
 unfold Ux at *
 split at h
 ·exact Tw h fun _ _ => hq _
 ·split at h
  ·exact ⟨fun e => Tw (h.1 e) fun _ _ => hq _, fun e => hq _ (h.2 e)⟩
  ·exact hq _ h
  ·exact h.elim
theorem Sr {ops : List CO} : ∀ {os : List CO} {s : St} {l : List (CO × St)} {Q : St → Prop}, ops = l.map (·.1) ++ os → Pk E m ops os s (l.map fun p => C5 p.2.ρ p.1).reverse Q → Wp E m os s (l.map fun p => (p.1, A1 E.pw p.2 p.1)).reverse Q
 | [], s, l, Q, he, h => by
  simp only [Pk] at h
  simp only [Wp]
  rw [List.reverse_reverse] at h ⊢
  rw [he, List.append_nil] at h
  exact ⟨Pt h.1, h.2⟩
 | o :: os, s, l, Q, he, h => by
  simp only [Pk] at h
  simp only [Wp]
  refine Fw h fun s' h' => ?_
  have := Sr (ops := ops) (l := l ++ [(o, s)]) (os := os) (s := s') (Q := Q) (by simp [he]) (by simpa using h')
  simpa using this
theorem Yl {ops : List CO} {s : St} {Q : St → Prop} (h : Pk E m ops ops s [] Q) : Wp E m ops s [] Q := Sr (l := []) rfl h
theorem Dr (ρ : Nat → FV) (d : Nat) (v : FV) (i : Nat) : Ah ρ (some d) v i = if i = d then v else ρ i := rfl
theorem Dj (ρ : Nat → FV) (v : FV) : Ah ρ none v = ρ := rfl
theorem Br.intro {c : Bool} {P Q : Prop} (h1 : c = true → P) (h2 : c = false → Q) : Br c P Q := ⟨h1, h2⟩
end
def C0 (n0 : Nat) (s : St) (o : CO) : List Nat × Bool × Bool :=
 match o.k with
 | .load _ _ x => ((Bv s.ρ x).1, (Bv s.ρ x).2.isEmpty, (Bv s.ρ x).2.all fun id => decide (id < n0))
 | .fadr _ x | .iadrA _ _ x _ => ((Bv s.ρ x).1, true, true)
 | .b2s _ => ([], false, false)
 | .store _ x _ => ((Bv s.ρ x).1, true, true)
 | .call _ args => ([], true, (Dw s.ρ args).isSome && decide (n0 ≤ s.H.length))
 | .newO _ | .boxO _ | .mkO .. | .makeS .. | .s2b .. => ([], true, decide (n0 ≤ s.H.length))
 | .app _ _ x _ => ([], true, decide (n0 ≤ s.H.length) && ((Av s.ρ x).map fun v => (Ae v).all fun id => decide (n0 ≤ id)) == some true)
 | _ => ([], true, true)
def Hs (pw : Nat → Bool) (o : CO) (bs : List Nat × Bool × Bool) : Option (Nat × List Nat × List Nat) :=
 match o.k with
 | .appP _ _ t _ | .buildP t _ _ _ => some (2, Io o ++ (o.k.ops.flatMap F4), o.dst.toList ++ [t])
 | .store .. => if bs.1.isEmpty then some (2, Io o ++ (o.k.ops.flatMap F4), o.dst.toList) else some (0, Io o ++ (o.k.ops.flatMap F4 ++ bs.1), o.dst.toList ++ bs.1)
 | .newO _ | .boxO _ | .mkO .. | .makeS .. | .s2b .. | .app .. => some (if bs.2.2 then 1 else 2, Io o ++ (o.k.ops.flatMap F4), o.dst.toList)
 | .cpy .. | .clr .. => some (2, Io o ++ (o.k.ops.flatMap F4), o.dst.toList)
 | .call f args => some (if pw f && bs.2.2 then 1 else 2, Io o ++ (args.flatMap F4), o.dst.toList)
 | .callV x args => some (2, Io o ++ ((x :: args).flatMap F4), o.dst.toList)
 | k => some (0, Io o ++ (k.ops.flatMap F4 ++ bs.1), o.dst.toList)
def aE (pw : Nat → Bool) (o : CO) (bs : List Nat × Bool × Bool) (o' : CO) (bs' : List Nat × Bool × Bool) : Bool :=
 o'.pre.contains o.ix ||
 match Hs pw o bs, Hs pw o' bs' with
 | some a, some b => J9 a.2.2 b.2.1 && J9 b.2.2 a.2.1 && J9 a.2.2 b.2.2 && (a.1 == 0 || b.1 == 0) && (a.1 == 0 || bs'.2.1 || (a.1 == 1 && bs'.2.2)) && (b.1 == 0 || bs.2.1 || (b.1 == 1 && bs.2.2)) && !(Vp o && Vp o')
 | _, _ => false
def aU (pw : Nat → Bool) : List CO → List (List Nat × Bool × Bool) → Bool
 | [], [] => true
 | o :: os, b :: bs => ((os.zip bs).all fun p => aE pw o b p.1 p.2) && aU pw os bs
 | _, _ => false
def Pm (E : Hb) (m : Md) (ops : List CO) (n0 : Nat) : List CO → St → List (List Nat × Bool × Bool) → (St → Prop) → Prop
 | [], s, acc, Q => aU E.pw ops acc.reverse = true ∧ Q s
 | o :: os, s, acc, Q => Ux E m true s o fun s' => Pm E m ops n0 os s' (C0 n0 s o :: acc) Q
section
variable {E : Hb} {m : Md} {n0 : Nat}
theorem Tx {pw : Nat → Bool} {s : St} {o : CO} {a : Nat × List Nat × List Nat} {k : CK} (n0 : Nat) (hk : o.k = k) (hi : Aj pw s k = { rd := k.ops.flatMap F4, wt := [], hr := [], he := 1, ha := [], hb := s.H.length }) (hb : (match k with | .newO _ | .boxO _ | .mkO .. | .makeS .. | .s2b .. => true | _ => false) = true) (hc : (match k with | .call .. => false | _ => true) = true) (h : Hs pw o (C0 n0 s o) = some a) :
  (a.1 = 0 → (Aj pw s k).he = 0) ∧ (a.1 = 1 → (Aj pw s k).he = 0 ∨ ((Aj pw s k).he = 1 ∧ n0 ≤ (Aj pw s k).hb) ∨ ((Aj pw s k).he = 2 ∧ n0 ≤ (Aj pw s k).hb ∧ ∀ id ∈ (Aj pw s k).ha, n0 ≤ id)) ∧ ((Aj pw s k).gn = true → Vp o = true) ∧ (∀ x ∈ Io o ++ (Aj pw s k).rd, x ∈ a.2.1) ∧ (∀ x ∈ o.dst.toList ++ (Aj pw s k).wt, x ∈ a.2.2) ∧ ((C0 n0 s o).2.1 = true → (Aj pw s k).hr = []) ∧
   ((∀ f args, k ≠ .call f args) → (C0 n0 s o).2.2 = true → ∀ id ∈ (Aj pw s k).hr, id < n0) ∧ ((∃ f args, k = .call f args) → (Aj pw s k).hr = []) := by
 have hbx : C0 n0 s o = ([], true, decide (n0 ≤ s.H.length)) := by
  unfold C0
  rw [hk]
  cases k <;> first | rfl | cases hb
 have hst : Hs pw o (C0 n0 s o) = some (if decide (n0 ≤ s.H.length) then 1 else 2, Io o ++ (k.ops.flatMap F4), o.dst.toList) := by
  rw [hbx]
  unfold Hs
  rw [hk]
  cases k <;> first | rfl | cases hb
 rw [hst] at h
 have h := Option.some.inj h
 subst h
 rw [hi]
 refine ⟨fun h => ?_, fun h => ?_, by simp, fun x hx => hx, fun x hx => by simpa using hx, by simp, by simp, by simp⟩
 ·exfalso
  revert h
  simp only
  split <;> simp
 ·revert h
  simp only
  split
  ·rename_i h2
   intro _
   exact .inr (.inl ⟨trivial, by simpa using h2⟩)
  ·simp
theorem hO {pw : Nat → Bool} {s : St} {o : CO} {a : Nat × List Nat × List Nat} (h : Hs pw o (C0 n0 s o) = some a) :
  (a.1 = 0 → (A1 pw s o).he = 0) ∧ (a.1 = 1 → (A1 pw s o).he = 0 ∨ ((A1 pw s o).he = 1 ∧ n0 ≤ (A1 pw s o).hb) ∨ ((A1 pw s o).he = 2 ∧ n0 ≤ (A1 pw s o).hb ∧ ∀ id ∈ (A1 pw s o).ha, n0 ≤ id)) ∧ ((A1 pw s o).gn = true → Vp o = true) ∧ (∀ x ∈ (A1 pw s o).rd, x ∈ a.2.1) ∧ (∀ x ∈ (A1 pw s o).wt, x ∈ a.2.2) ∧ ((C0 n0 s o).2.1 = true → (A1 pw s o).hr = []) ∧
   ((Hs pw o (C0 n0 s o)).isSome = true → (∀ f args, o.k ≠ .call f args) → (C0 n0 s o).2.2 = true → ∀ id ∈ (A1 pw s o).hr, id < n0) ∧ ((∃ f args, o.k = .call f args) → (A1 pw s o).hr = []) := by
 unfold A1
 have full : (a.1 = 0 → (Aj pw s o.k).he = 0) ∧ (a.1 = 1 → (Aj pw s o.k).he = 0 ∨ ((Aj pw s o.k).he = 1 ∧ n0 ≤ (Aj pw s o.k).hb) ∨ ((Aj pw s o.k).he = 2 ∧ n0 ≤ (Aj pw s o.k).hb ∧ ∀ id ∈ (Aj pw s o.k).ha, n0 ≤ id)) ∧ ((Aj pw s o.k).gn = true → Vp o = true) ∧ (∀ x ∈ Io o ++ (Aj pw s o.k).rd, x ∈ a.2.1) ∧ (∀ x ∈ o.dst.toList ++ (Aj pw s o.k).wt, x ∈ a.2.2) ∧ ((C0 n0 s o).2.1 = true → (Aj pw s o.k).hr = []) ∧
   ((∀ f args, o.k ≠ .call f args) → (C0 n0 s o).2.2 = true → ∀ id ∈ (Aj pw s o.k).hr, id < n0) ∧ ((∃ f args, o.k = .call f args) → (Aj pw s o.k).hr = []) := by
  cases hk : o.k with
  | call f args =>
   unfold Hs C0 at h
   rw [hk] at h
   simp only [Option.some.injEq] at h
   subst h
   unfold C0 Aj
   rw [hk]
   simp only
   rcases Option.eq_none_or_eq_some (Dw s.ρ args) with hvs | ⟨vs, hvs⟩
   ·simp only [callee, hvs, Option.isSome_none, Bool.false_and, Bool.and_false]
    refine ⟨by simp, by simp, by simp, fun x hx => hx, fun x hx => by simpa using hx, by simp, fun h => absurd rfl (h f args), by simp⟩
   ·simp only [callee, hvs, Option.isSome_some, Bool.true_and]
    cases hpw : pw f with
    | true =>
     simp only [Bool.true_and, if_true]
     refine ⟨fun h => ?_, fun h => ?_, by simp, fun x hx => hx, fun x hx => by simpa using hx, by simp, fun h => absurd rfl (h f args), by simp⟩
     ·split at h <;> simp at h
     ·split at h
      ·rename_i h2; exact .inr (.inl (by simpa using h2))
      ·simp at h
    | false =>
     simp only [Bool.false_and, Bool.false_eq_true, if_false]
     exact ⟨by simp, by simp, by simp, fun x hx => hx, fun x hx => by simpa using hx, by simp, fun h => absurd rfl (h f args), by simp⟩
  | callV x args =>
   have hinf : (Aj pw s (.callV x args)).gn = false ∧ (Aj pw s (.callV x args)).rd = (CK.callV x args).ops.flatMap F4 ∧ (Aj pw s (.callV x args)).wt = [] ∧ (Aj pw s (.callV x args)).hr = [] := by
    unfold Aj
    simp only
    split
    ·split <;> exact ⟨rfl, rfl, rfl, rfl⟩
    ·exact ⟨rfl, rfl, rfl, rfl⟩
   obtain ⟨h1, h2, h3, h4⟩ := hinf
   unfold Hs C0 at h
   rw [hk] at h
   simp only [Option.some.injEq] at h
   subst h
   rw [h1, h2, h3, h4]
   exact ⟨fun h => absurd h (by simp), fun h => absurd h (by simp), fun h => (Bool.noConfusion h), fun x hx => hx, fun x hx => by simpa using hx, fun _ => rfl, fun _ _ id hid => by simp at hid, fun _ => rfl⟩
  | store n x y =>
   unfold Hs C0 at h
   unfold C0 Aj
   rw [hk] at h ⊢
   simp only at h ⊢
   unfold Bv at h
   cases hadr : Jz s.ρ x with
   | none =>
    rw [hadr] at h
    simp only [List.isEmpty_nil, if_true, Option.some.injEq] at h
    subst h
    simp
   | some ad =>
    cases ad with
    | hp id p e =>
     rw [hadr] at h
     simp only [List.isEmpty_nil, if_true, Option.some.injEq] at h
     subst h
     simp
    | box t p e =>
     rw [hadr] at h
     simp only [List.isEmpty_cons, if_false, Option.some.injEq, Bool.false_eq_true] at h
     subst h
     simp
  | app esz bytes x y =>
   unfold Hs C0 at h
   unfold C0 Aj
   rw [hk] at h ⊢
   simp only [Option.some.injEq] at h
   subst h
   refine ⟨fun h => ?_, fun h => ?_, by simp, fun x hx => hx, fun x hx => by simpa using hx, by simp, by simp, by simp⟩
   ·exfalso
    revert h
    simp only
    split <;> simp
   ·revert h
    simp only
    split
    ·rename_i h2
     intro _
     rw [Bool.and_eq_true] at h2
     refine .inr (.inr ⟨trivial, by simpa using h2.1, ?_⟩)
     rcases Option.eq_none_or_eq_some (Av s.ρ x) with he | ⟨v, he⟩
     ·rw [he] at h2; simp at h2
     ·rw [he] at h2 ⊢
      have h3 := h2.2
      simp only [Option.map_some, beq_iff_eq, Option.some.injEq, List.all_eq_true, decide_eq_true_eq] at h3
      exact h3
    ·simp
  | newO zero => exact Tx n0 hk rfl rfl rfl h
  | boxO x => exact Tx n0 hk rfl rfl rfl h
  | mkO len esz zero parts => exact Tx n0 hk rfl rfl rfl h
  | makeS esz bytes zero l c => exact Tx n0 hk rfl rfl rfl h
  | s2b esz x => exact Tx n0 hk rfl rfl rfl h
  | _ =>
   unfold Hs C0 at h
   unfold C0 Aj
   rw [hk] at h ⊢
   first
    | (simp only [reduceCtorEq] at h; done)
    | (simp only [Option.some.injEq] at h; subst h; simp [Vp, hk])
 have off : (∀ x ∈ Io o, x ∈ a.2.1) ∧ ∀ x ∈ o.dst.toList, x ∈ a.2.2 := ⟨fun x hx => full.2.2.2.1 x (List.mem_append_left _ hx), fun x hx => full.2.2.2.2.1 x (List.mem_append_left _ hx)⟩
 split
 ·exact ⟨full.1, full.2.1, full.2.2.1, full.2.2.2.1, full.2.2.2.2.1, full.2.2.2.2.2.1, fun _ => full.2.2.2.2.2.2.1, full.2.2.2.2.2.2.2⟩
 ·exact ⟨fun _ => rfl, fun _ => .inl rfl, fun h => (Bool.noConfusion h), off.1, off.2, fun _ => rfl, fun _ _ _ id hid => by simp at hid, fun _ => rfl⟩
theorem oY {pw : Nat → Bool} {s : St} {o : CO} {a : Nat × List Nat × List Nat} (h : Hs pw o (C0 n0 s o) = some a) (hb : (C0 n0 s o).2.2 = true) : ∀ id ∈ (A1 pw s o).hr, id < n0 := by
 obtain ⟨_, _, _, _, _, _, h1, h2⟩ := hO h
 by_cases hc : ∃ f args, o.k = .call f args
 ·rw [h2 hc]; intro id hid; simp at hid
 ·exact h1 (by rw [h]; rfl) (fun f args e => hc ⟨f, args, e⟩) hb
theorem Td {a b : K3} (h : a.he = 0 ∨ (a.he = 1 ∧ n0 ≤ a.hb) ∨ (a.he = 2 ∧ n0 ≤ a.hb ∧ ∀ id ∈ a.ha, n0 ≤ id)) (hb : ∀ id ∈ b.hr, id < n0) : a.calm b = true := by
 unfold K3.calm
 rcases h with h | ⟨h, h2⟩ | ⟨h, h2, h3⟩ <;> rw [h]
 ·rfl
 ·simp only [List.all_eq_true, decide_eq_true_eq]
  exact fun id hid => J3 (hb id hid) h2
 ·simp only [List.all_eq_true, Bool.and_eq_true, decide_eq_true_eq, Bool.not_eq_true', List.contains_eq_mem, decide_eq_false_iff_not]
  exact fun id hid => ⟨J3 (hb id hid) h2, fun hm => by have := h3 id hm; have := hb id hid; omega⟩
theorem gA {pw : Nat → Bool} {s s' : St} {o o' : CO} (h : aE pw o (C0 n0 s o) o' (C0 n0 s' o') = true) : (o'.pre.contains o.ix || (A1 pw s o).apart (A1 pw s' o')) = true := by
 unfold aE at h
 rw [Bool.or_eq_true] at h ⊢
 rcases h with h | h
 ·exact .inl h
 ·refine .inr ?_
  split at h
  ·rename_i a b ha hb
   obtain ⟨a1, a2, a3, a4, a5, a6, _⟩ := hO (pw := pw) ha
   obtain ⟨b1, b2, b3, b4, b5, b6, _⟩ := hO (pw := pw) hb
   simp only [Bool.and_eq_true, Bool.or_eq_true, beq_iff_eq] at h
   obtain ⟨⟨⟨⟨⟨⟨h1, h2⟩, h3⟩, h4⟩, h5⟩, h6⟩, h8⟩ := h
   unfold K3.apart
   have c1 : (A1 pw s o).calm (A1 pw s' o') = true := by
    rcases h5 with (h5 | h5) | ⟨h5, h7⟩
    ·unfold K3.calm; rw [a1 h5]; rfl
    ·exact L0 (b6 h5)
    ·exact Td (a2 h5) (oY hb h7)
   have c2 : (A1 pw s' o').calm (A1 pw s o) = true := by
    rcases h6 with (h6 | h6) | ⟨h6, h7⟩
    ·unfold K3.calm; rw [b1 h6]; rfl
    ·exact L0 (a6 h6)
    ·exact Td (b2 h6) (oY ha h7)
   have c3 : ((A1 pw s o).he == 0 || (A1 pw s' o').he == 0) = true := by
    rcases h4 with h4 | h4
    ·rw [a1 h4]; rfl
    ·rw [b1 h4]; simp
   have c4 : (!((A1 pw s o).gn && (A1 pw s' o').gn)) = true := by
    cases g1 : (A1 pw s o).gn with
    | false => rfl
    | true =>
     cases g2 : (A1 pw s' o').gn with
     | false => rfl
     | true =>
      rw [a3 g1, b3 g2] at h8
      exact absurd h8 (by decide)
   rw [c1, c2, c3, c4, Hq h1 a5 b4, Hq h2 b5 a4, Hq h3 a5 b5]
   rfl
  ·cases h
theorem N8 {pw : Nat → Bool} : ∀ {l : List (CO × St)}, aU pw (l.map (·.1)) (l.map fun p => C0 n0 p.2 p.1) = true → B0 (l.map fun p => (p.1, A1 pw p.2 p.1)) = true
 | [], _ => rfl
 | (o, s) :: l, h => by
  simp only [List.map_cons, aU, Bool.and_eq_true] at h
  simp only [List.map_cons, B0, Bool.and_eq_true]
  refine ⟨?_, N8 h.2⟩
  have h1 := h.1
  rw [List.zip_map', List.all_eq_true] at h1
  rw [List.all_eq_true]
  intro p hp
  obtain ⟨q, hq, rfl⟩ := List.mem_map.1 hp
  exact gA (h1 _ (List.mem_map.2 ⟨q, hq, rfl⟩))
theorem Tv {ops : List CO} : ∀ {os : List CO} {s : St} {l : List (CO × St)} {Q : St → Prop}, ops = l.map (·.1) ++ os → Pm E m ops n0 os s (l.map fun p => C0 n0 p.2 p.1).reverse Q → Wp E m os s (l.map fun p => (p.1, A1 E.pw p.2 p.1)).reverse Q
 | [], s, l, Q, he, h => by
  simp only [Pm] at h
  simp only [Wp]
  rw [List.reverse_reverse] at h ⊢
  rw [he, List.append_nil] at h
  exact ⟨N8 h.1, h.2⟩
 | o :: os, s, l, Q, he, h => by
  simp only [Pm] at h
  simp only [Wp]
  refine Fw h fun s' h' => ?_
  have := Tv (ops := ops) (l := l ++ [(o, s)]) (os := os) (s := s') (Q := Q) (by simp [he]) (by simpa using h')
  simpa using this
theorem Xq {ops : List CO} {s : St} {Q : St → Prop} (h : Pm E m ops n0 ops s [] Q) : Wp E m ops s [] Q := Tv (l := []) rfl h
end
def jV (wl wh : Nat) (s : St) (o : CO) : List Nat × Bool × Bool :=
 match o.k with
 | .load _ _ x => ((Bv s.ρ x).1, (Bv s.ρ x).2.isEmpty, (Bv s.ρ x).2.all fun id => decide (wl ≤ id) && decide (id < wh))
 | .fadr _ x | .iadrA _ _ x _ => ((Bv s.ρ x).1, true, true)
 | .b2s _ => ([], false, false)
 | .store _ x _ => ((Bv s.ρ x).1, true, true)
 | .call _ args => ([], true, decide (wh ≤ s.H.length) && ((Dw s.ρ args).map fun vs => (vs.flatMap Ae).all fun id => decide (id < wl) || decide (wh ≤ id)) == some true)
 | .newO _ | .boxO _ | .mkO .. | .makeS .. | .s2b .. => ([], true, decide (wh ≤ s.H.length))
 | .app _ _ x _ => ([], true, decide (wh ≤ s.H.length) && ((Av s.ρ x).map fun v => (Ae v).all fun id => decide (id < wl) || decide (wh ≤ id)) == some true)
 | _ => ([], true, true)
def eZ (pw : Nat → Bool) (o : CO) (bs : List Nat × Bool × Bool) : Option (Nat × List Nat × List Nat) :=
 match o.k with
 | .appP _ _ t _ | .buildP t _ _ _ => some (2, Io o ++ (o.k.ops.flatMap F4), o.dst.toList ++ [t])
 | .store .. => if bs.1.isEmpty then some (2, Io o ++ (o.k.ops.flatMap F4), o.dst.toList) else some (0, Io o ++ (o.k.ops.flatMap F4 ++ bs.1), o.dst.toList ++ bs.1)
 | .newO _ | .boxO _ | .mkO .. | .makeS .. | .s2b .. | .app .. => some (if bs.2.2 then 1 else 2, Io o ++ (o.k.ops.flatMap F4), o.dst.toList)
 | .cpy .. | .clr .. => some (2, Io o ++ (o.k.ops.flatMap F4), o.dst.toList)
 | .call f args => some (if bs.2.2 then 1 else 2, Io o ++ (args.flatMap F4), o.dst.toList)
 | .callV x args => some (2, Io o ++ ((x :: args).flatMap F4), o.dst.toList)
 | k => some (0, Io o ++ (k.ops.flatMap F4 ++ bs.1), o.dst.toList)
def pR (pw : Nat → Bool) (o : CO) (bs : List Nat × Bool × Bool) (o' : CO) (bs' : List Nat × Bool × Bool) : Bool :=
 o'.pre.contains o.ix ||
 match eZ pw o bs, eZ pw o' bs' with
 | some a, some b => J9 a.2.2 b.2.1 && J9 b.2.2 a.2.1 && J9 a.2.2 b.2.2 && (a.1 == 0 || b.1 == 0) && (a.1 == 0 || bs'.2.1 || (a.1 == 1 && bs'.2.2)) && (b.1 == 0 || bs.2.1 || (b.1 == 1 && bs.2.2)) && !(Vp o && Vp o')
 | _, _ => false
def hU (pw : Nat → Bool) : List CO → List (List Nat × Bool × Bool) → Bool
 | [], [] => true
 | o :: os, b :: bs => ((os.zip bs).all fun p => pR pw o b p.1 p.2) && hU pw os bs
 | _, _ => false
def Xn (E : Hb) (m : Md) (ops : List CO) (wl wh : Nat) : List CO → St → List (List Nat × Bool × Bool) → (St → Prop) → Prop
 | [], s, acc, Q => hU E.pw ops acc.reverse = true ∧ Q s
 | o :: os, s, acc, Q => Ux E m true s o fun s' => Xn E m ops wl wh os s' (jV wl wh s o :: acc) Q
section
variable {E : Hb} {m : Md} {wl wh : Nat}
end
inductive Tk where
 | c (c : CC)
 | o (draw : Bool) (o : CO)
 | r (os : List CO)
 | d (ops os : List CO) (acc : List (List Nat × Bool))
 | e (ops os : List CO) (acc : List (List Nat × Bool × Bool)) (n0 : Nat)
 | w (ops os : List CO) (acc : List (List Nat × Bool × Bool)) (lo hi : Nat)
 | blk (id : Nat)
section
variable (E : Hb) (m : Md)
mutual
def go : List Tk → St → (Ex → St → Prop) → Prop
 | [], s, Q => Q .normal s
 | .c c :: ts, s, Q => L6 E m c s fun e s' => Gb e ts s' Q
 | .o draw o :: ts, s, Q => Ux E m draw s o fun s' => go ts s' Q
 | .r os :: ts, s, Q => dS E m os s fun s' => go ts s' Q
 | .d ops os acc :: ts, s, Q => Pk E m ops os s acc fun s' => go ts s' Q
 | .e ops os acc n0 :: ts, s, Q => Pm E m ops n0 os s acc fun s' => go ts s' Q
 | .w ops os acc lo hi :: ts, s, Q => Xn E m ops lo hi os s acc fun s' => go ts s' Q
 | .blk _ :: ts, s, Q => go ts s Q
termination_by ts => (ts.length, 1)
def Gb : Ex → List Tk → St → (Ex → St → Prop) → Prop
 | .normal, ts, s, Q => go ts s Q
 | .ret, _, s, Q => Q .ret s
 | .exit j, [], s, Q => Q (.exit j) s
 | .exit j, .blk i :: ts, s, Q => if j = i then go ts s Q else Gb (.exit j) ts s Q
 | .exit j, _ :: ts, s, Q => Gb (.exit j) ts s Q
termination_by _ ts => (ts.length, 2)
end
def uK (r : Option (FV × St)) (dst : Option Nat) (ts : List Tk) (Q : Ex → St → Prop) : Prop :=
 match r with
 | some (v, s') => go E m ts { s' with ρ := Ah s'.ρ dst v } Q
 | none => False
def Cj (draw : Bool) (f : Nat) (vs : Option (List Value)) (s : St) (dst : Option Nat) (ts : List Tk) (Q : Ex → St → Prop) : Prop :=
 Ss vs fun vs => Ci E (if draw then m.drawn E.pw s.H f vs else m) f vs s.H fun r H => go E m ts { s with H := H, ρ := Ah s.ρ dst (.val r) } Q
def Ff (draw : Bool) (fv : Option Value) (vs : Option (List Value)) (s : St) (dst : Option Nat) (ts : List Tk) (Q : Ex → St → Prop) : Prop :=
 match fv with
 | some (.func (.func f) first caps) => if first.size = 0 then Cj E m draw f (match vs with | some vs => some (vs ++ caps.toList) | none => none) s dst ts Q else False
 | _ => False
def Ua (draw : Bool) (s : St) (k : CK) (dst : Option Nat) (ts : List Tk) (Q : Ex → St → Prop) : Prop :=
 match k with
 | .call f args => Cj E m draw f (Dw s.ρ args) s dst ts Q
 | .callV x args => Ff E m draw (Av s.ρ x) (Dw s.ρ args) s dst ts Q
 | k => uK E m (Ai m s k) dst ts Q
def Bf (c : Bool) (t1 : List Tk) (s1 : St) (t2 : List Tk) (s2 : St) (Q : Ex → St → Prop) : Prop :=
 (c = true → go E m t1 s1 Q) ∧ (c = false → go E m t2 s2 Q)
def rH (fv : FV) (b : Bool) (t1 : List Tk) (s : St) (t2 : List Tk) (s2 : St) (Q : Ex → St → Prop) : Prop :=
 match fv with
 | .val (.bool c) => Bf E m (c == b) t1 s t2 s2 Q
 | .val (.tuple _) => go E m t2 s2 Q
 | _ => False
def yV (v : Option Value) (t1 t2 : List Tk) (s : St) (Q : Ex → St → Prop) : Prop :=
 match v with
 | some (.bool c) => Bf E m c t1 s t2 s Q
 | _ => False
section
variable {E m} {s s1 s2 : St} {Q : Ex → St → Prop} {ts t1 t2 : List Tk}
theorem Gt : go E m [] s Q = Q .normal s := by rw [go]
theorem Gy (i : Nat) : go E m (.blk i :: ts) s Q = go E m ts s Q := by rw [go]
theorem E2 : go E m (.c .skip :: ts) s Q = go E m ts s Q := by rw [go, L6, Gb]
theorem Gs : go E m (.c .ret :: ts) s Q = Q .ret s := by rw [go, L6, Gb]
theorem E6 (j : Nat) : go E m (.c (.exit j) :: ts) s Q = Gb E m (.exit j) ts s Q := by rw [go, L6]
theorem F6 (a b : CC) : go E m (.c (.seq a b) :: ts) s Q = go E m (.c a :: .c b :: ts) s Q := by
 rw [go, L6, go]
 congr 1
 funext e s'
 cases e with
 | normal => simp only [Gb, go]
 | exit j => simp only [Gb]
 | ret => simp only [Gb]
theorem Dk (i : Nat) (c : CC) : go E m (.c (.block i c) :: ts) s Q = go E m (.c c :: .blk i :: ts) s Q := by
 rw [go, L6, go]
 congr 1
 funext e s'
 cases e with
 | normal => simp only [Gb, go]
 | exit j => simp only [Gb]
 | ret => simp only [Gb]
theorem Ha (os : List CO) : go E m (.c (.reg false os) :: ts) s Q = go E m (.r os :: ts) s Q := by
 simp only [go, L6, Gb]
theorem Jo : go E m (.r [] :: ts) s Q = go E m ts s Q := by simp only [go, dS]
theorem O2 (o : CO) (os : List CO) : go E m (.r (o :: os) :: ts) s Q = go E m (.o false o :: .r os :: ts) s Q := by simp only [go, dS]
theorem Ix (ops : List CO) (acc : List (List Nat × Bool)) : go E m (.d ops [] acc :: ts) s Q = (qK ops acc.reverse = true ∧ go E m ts s Q) := by simp only [go, Pk]
theorem Oc (ops os : List CO) (o : CO) (acc : List (List Nat × Bool)) : go E m (.d ops (o :: os) acc :: ts) s Q = go E m (.o true o :: .d ops os (C5 s.ρ o :: acc) :: ts) s Q := by simp only [go, Pk]
theorem Iq (ops : List CO) (acc : List (List Nat × Bool × Bool)) (n0 : Nat) : go E m (.e ops [] acc n0 :: ts) s Q = (aU E.pw ops acc.reverse = true ∧ go E m ts s Q) := by simp only [go, Pm]
theorem O0 (ops os : List CO) (o : CO) (acc : List (List Nat × Bool × Bool)) (n0 : Nat) : go E m (.e ops (o :: os) acc n0 :: ts) s Q = go E m (.o true o :: .e ops os (C0 n0 s o :: acc) n0 :: ts) s Q := by simp only [go, Pm]
theorem nZ (ops : List CO) (acc : List (List Nat × Bool × Bool)) (lo hi : Nat) : go E m (.w ops [] acc lo hi :: ts) s Q = (hU E.pw ops acc.reverse = true ∧ go E m ts s Q) := by simp only [go, Xn]
theorem zL (ops os : List CO) (o : CO) (acc : List (List Nat × Bool × Bool)) (lo hi : Nat) : go E m (.w ops (o :: os) acc lo hi :: ts) s Q = go E m (.o true o :: .w ops os (jV lo hi s o :: acc) lo hi :: ts) s Q := by simp only [go, Xn]
theorem Er (x : X) (a b : CC) : go E m (.c (.cond x a b) :: ts) s Q = yV E m (Av s.ρ x) (.c a :: ts) (.c b :: ts) s Q := by
 simp only [go, L6, yV]
 generalize Av s.ρ x = v
 rcases v with _ | v
 ·rfl
 ·cases v <;> simp only [Br, Bf, go]
theorem cG {draw : Bool} {k : CK} {dst : Option Nat} : (Uy E m draw s k fun v s' => go E m ts { s' with ρ := Ah s'.ρ dst v } Q) = Ua E m draw s k dst ts Q := by
 cases k with
 | call f args => simp only [Uy, Ua, Cj]
 | callV x args =>
  simp only [Uy, Ua, Ff]
  generalize Av s.ρ x = v
  rcases v with _ | v
  ·rfl
  ·cases v with
   | func fn first caps =>
    cases fn with
    | func f =>
     simp only
     cases Dw s.ρ args with
     | none => simp [Cj, Ss]
     | some vs =>
      simp only [Cj, Ss]
      by_cases h0 : first.size = 0
      ·simp [h0]
      ·simp [h0]
    | _ => rfl
   | _ => rfl
 | _ =>
  simp only [Uy, Ua, uK, Ss]
  split <;> simp_all
theorem O5 (draw : Bool) (d : Option Nat) (k : CK) (i : Nat) (p : List Nat) : go E m (.o draw ⟨d, none, k, i, p⟩ :: ts) s Q = Ua E m draw s k d ts Q := by
 rw [← cG]
 simp only [go, Ux]
theorem O9 (draw : Bool) (d : Option Nat) (t : Nat) (b : Bool) (k : CK) (i : Nat) (p : List Nat) : go E m (.o draw ⟨d, some (t, b), k, i, p⟩ :: ts) s Q =
  rH E m (s.ρ t) b (.o draw ⟨d, none, k, i, p⟩ :: ts) s ts { s with ρ := Ah s.ρ d (.val (.tuple #[])) } Q := by
 simp only [go, Ux, rH]
 generalize s.ρ t = v
 cases v with
 | val v => cases v <;> simp only [Br, Bf, go, Ux]
 | _ => rfl
theorem Db (v : FV) (d : Option Nat) : uK E m (some (v, s1)) d ts Q = go E m ts { s1 with ρ := Ah s1.ρ d v } Q := rfl
theorem Dp (c : Bool) : yV E m (some (.bool c)) t1 t2 s Q = Bf E m c t1 s t2 s Q := rfl
theorem Dt (c b : Bool) : rH E m (.val (.bool c)) b t1 s t2 s2 Q = Bf E m (c == b) t1 s t2 s2 Q := rfl
theorem E5 (c : Array Value) (b : Bool) : rH E m (.val (.tuple c)) b t1 s t2 s2 Q = go E m t2 s2 Q := rfl
theorem Dl : Bf E m true t1 s1 t2 s2 Q = go E m t1 s1 Q := by simp [Bf]
theorem Cz : Bf E m false t1 s1 t2 s2 Q = go E m t2 s2 Q := by simp [Bf]
theorem Ep (c : Bool) : Bf E m (!c) t1 s1 t2 s2 Q = Bf E m c t2 s2 t1 s1 Q := by cases c <;> simp [Bf]
theorem Bf.intro {c : Bool} (h1 : c = true → go E m t1 s1 Q) (h2 : c = false → go E m t2 s2 Q) : Bf E m c t1 s1 t2 s2 Q := ⟨h1, h2⟩
theorem Dg (j i : Nat) : Gb E m (.exit j) (.blk i :: ts) s Q = if j = i then go E m ts s Q else Gb E m (.exit j) ts s Q := by simp only [Gb]
theorem Jc (j : Nat) (c : CC) : Gb E m (.exit j) (.c c :: ts) s Q = Gb E m (.exit j) ts s Q := by simp only [Gb]
theorem Es (j : Nat) : Gb E m (.exit j) [] s Q = Q (.exit j) s := by simp only [Gb]
theorem Z4 {c : CC} (h : go E m [.c c] s Q) : dV E m c s Q := by
 rw [go] at h
 refine (Km h).mono fun e s' h => ?_
 cases e with
 | normal => rw [Gb, go] at h; exact h
 | exit j => rw [Gb] at h; exact h
 | ret => rw [Gb] at h; exact h
theorem Nz : ∀ {os : List CO} {s : St} {P P' : St → Prop}, dS E m os s P → (∀ s', P s' → P' s') → dS E m os s P'
 | [], _, _, _, h, hq => hq _ h
 | _ :: _, _, _, _, h, hq => Fw h fun _ h' => Nz h' hq
theorem Te : ∀ {os : List CO} {s : St} {acc : List (CO × K3)} {P P' : St → Prop}, Wp E m os s acc P → (∀ s', P s' → P' s') → Wp E m os s acc P'
 | [], _, _, _, _, h, hq => ⟨h.1, hq _ h.2⟩
 | _ :: _, _, _, _, _, h, hq => Fw h fun _ h' => Te h' hq
theorem Af {os : List CO} (h : go E m (.d os os [] :: ts) s Q) : go E m (.c (.reg true os) :: ts) s Q := by
 simp only [go, L6, Gb] at h ⊢
 exact Yl h
theorem N2 {os : List CO} (n0 : Nat) (h : go E m (.e os os [] n0 :: ts) s Q) : go E m (.c (.reg true os) :: ts) s Q := by
 simp only [go, L6, Gb] at h ⊢
 exact Xq h
theorem mE {c : CC} {P : Ex → St → Prop} (h : dV E m c s P) (hq : ∀ e s', P e s' → Gb E m e ts s' Q) (hl : ∃ b, c = .loop b) : go E m (.c c :: ts) s Q := by
 obtain ⟨b, rfl⟩ := hl
 rw [go, L6]
 exact h.mono hq
theorem F3 : ∀ {c : CC} {s : St} {P P' : Ex → St → Prop}, L6 E m c s P → (∀ e s', P e s' → P' e s') → L6 E m c s P'
 | .skip, _, _, _, h, hq => hq _ _ h
 | .exit _, _, _, _, h, hq => hq _ _ h
 | .ret, _, _, _, h, hq => hq _ _ h
 | .reg false _, _, _, _, h, hq => Nz h (hq _)
 | .reg true _, _, _, _, h, hq => Te h (hq _)
 | .seq a b, s, P, P', h, hq => by
  simp only [L6] at h ⊢
  refine F3 (c := a) h fun e s' h' => ?_
  cases e with
  | normal => exact F3 h' hq
  | exit j => exact hq _ _ h'
  | ret => exact hq _ _ h'
 | .cond c a b, s, P, P', h, hq => by
  simp only [L6] at *
  revert h
  generalize Av s.ρ c = v
  rcases v with _ | v
  ·exact fun h => h
  ·cases v <;> first | exact fun h => h | exact fun h => ⟨fun e => F3 (h.1 e) hq, fun e => F3 (h.2 e) hq⟩
 | .block id c, s, P, P', h, hq => by
  simp only [L6] at h ⊢
  refine F3 (c := c) h fun e s' h' => ?_
  cases e with
  | normal => exact hq _ _ h'
  | exit j =>
   by_cases hj : j = id
   ·simp only [if_pos hj] at *; exact hq _ _ h'
   ·simp only [if_neg hj] at *; exact hq _ _ h'
  | ret => exact hq _ _ h'
 | .loop _, _, _, _, h, hq => h.mono hq
theorem bQ {c : CC} {P P' : Ex → St → Prop} (h : go E m [.c c] s P) (hq : ∀ e s', P e s' → P' e s') : go E m [.c c] s P' := by
 rw [go] at *
 refine F3 h fun e s' h => ?_
 cases e with
 | normal => simp only [Gb, go] at *; exact hq _ _ h
 | exit j => simp only [Gb] at *; exact hq _ _ h
 | ret => simp only [Gb] at *; exact hq _ _ h
theorem Fq {i : Nat} {c : CC} (I : Nat → St → Prop) (P : St → Prop) (n : Nat) (h0 : I n s)
  (step : ∀ n s, I n s → go E m [.c c] s fun e s' => match e with
   | .normal => ∃ n' < n, I n' s'
   | .exit j => j = i ∧ P s'
   | .ret => Q .ret s')
  (hp : ∀ s, P s → go E m ts s Q) : go E m (.c (.loop c) :: .blk i :: ts) s Q := by
 refine mE (P := fun e s' => match e with
  | .normal => False
  | .exit j => j = i ∧ P s'
  | .ret => Q .ret s') ?_ (fun e s' h => ?_) ⟨_, rfl⟩
 ·refine eG I (fun n s hi => ?_) n s h0
  have := step n s hi
  rw [go] at this
  revert this
  generalize hk : L6 E m c s = w
  intro h
  subst hk
  have e : (fun e s' => Gb E m e [] s' fun e s' => match e with
   | .normal => ∃ n' < n, I n' s'
   | .exit j => j = i ∧ P s'
   | .ret => Q .ret s') = fun e s' => match e with
   | .normal => ∃ n' < n, I n' s'
   | .exit j => j = i ∧ P s'
   | .ret => Q .ret s' := by
   funext e s'
   cases e <;> simp only [Gb, go]
  rw [e] at h
  exact h
 ·cases e with
  | normal => exact h.elim
  | exit j =>
   obtain ⟨rfl, hP⟩ := h
   rw [Gb, if_pos rfl]
   exact hp _ hP
  | ret => rw [Gb]; exact h
theorem aV {draw : Bool} {f : Nat} {vs : List Value} {d : Option Nat} {P : Value → Hp → Prop} (h : ∀ m', (∀ id, s.H.length ≤ id → m.wr id = true) → (∀ id, s.H.length ≤ id → m'.wr id = true) → (m'.nr = m.nr) → (draw = false → m' = m) → Ci E m' f vs s.H P) (hw : ∀ id, s.H.length ≤ id → m.wr id = true)
  (hq : ∀ r H, P r H → go E m ts { s with H := H, ρ := Ah s.ρ d (.val r) } Q) : Cj E m draw f (some vs) s d ts Q := by
 unfold Cj Ss
 refine Ci.mono (h _ hw (fun id hid => ?_) ?_ ?_) hq
 ·cases draw with
  | false => exact hw id hid
  | true => simp only [if_true, Md.drawn]; simp [hid]
 ·cases draw <;> rfl
 ·rintro rfl; rfl
end
end
section
variable {E : Hb} {m : Md}
theorem Ci.det {f : Nat} {vs : List Value} {H : Hp} {P Q : Value → Hp → Prop} (h : Ci E m f vs H P) (k : Ci E m f vs H Q) : Ci E m f vs H fun r H' => P r H' ∧ Q r H' := by
 obtain ⟨k1, r1, H1, h1, h2⟩ := h
 obtain ⟨k2, r2, H2, h3, h4⟩ := k
 have e1 := Lt k2 h1
 have e2 := Lt k1 h3
 rw [Nat.add_comm] at e2
 rw [e1] at e2
 cases e2
 exact ⟨k1, r1, H1, h1, h2, h4⟩
def Aw (E : Hb) (f : Nat) (vs : List Value) (H : Hp) (r : Value) : Prop := ∀ m : Md, (∀ id, H.length ≤ id → m.wr id = true) → Ci E m f vs H fun r' H' => r' = r ∧ H' = H
theorem Uu {f : Nat} {vs : List Value} {H : Hp} {r : Value} (h : Aw E f vs H r) {draw : Bool} {s : St} {d : Option Nat} {ts : List Tk} {Q : Ex → St → Prop} (hH : s.H = H) (hw : ∀ id, H.length ≤ id → m.wr id = true) :
  Cj E m draw f (some vs) s d ts Q = go E m ts { s with ρ := Ah s.ρ d (.val r) } Q := by
 subst hH
 have hm := h (if draw then m.drawn E.pw s.H f vs else m) (fun id hid => by
  cases draw with
  | false => exact hw id hid
  | true => simp only [if_true, Md.drawn]; simp [hid])
 unfold Cj Ss
 simp only
 refine propext ⟨fun hf => ?_, fun hg => hm.mono fun r' H' ⟨e1, e2⟩ => by subst e1; subst e2; exact hg⟩
 obtain ⟨_, _, _, _, ⟨e1, e2⟩, h2⟩ := hm.det hf
 subst e1; subst e2
 exact h2
def Wr (m : Md) (H : Hp) : Prop := ∀ id, H.length ≤ id → m.wr id = true
theorem Bw {f : Nat} {vs : List Value} {H : Hp} {r : Value} (h : Aw E f vs H r) {draw : Bool} {s : St} {d : Option Nat} {ts : List Tk} {Q : Ex → St → Prop} (hH : s.H = H) (hw : Wr m H) :
  Cj E m draw f (some vs) s d ts Q = go E m ts { s with ρ := Ah s.ρ d (.val r) } Q := Uu h hH hw
theorem Ax {f : Nat} {vs : List Value} {H : Hp} {r : Value} (h : Aw E f vs H r) ⦃m : Md⦄ ⦃draw : Bool⦄ ⦃s : St⦄ ⦃d : Option Nat⦄ ⦃ts : List Tk⦄ ⦃Q : Ex → St → Prop⦄ (hH : s.H = H) (hw : Wr m H) : Cj E m draw f (some vs) s d ts Q = go E m ts { s with ρ := Ah s.ρ d (.val r) } Q := Bw h hH hw
theorem Aa {f : Nat} {vs : List Value} {H : Hp} {P : Value → Hp → Prop} {draw : Bool} {s : St} {d : Option Nat} {ts : List Tk} {Q : Ex → St → Prop} (h : ∀ m' : Md, Wr m' H → Ci E m' f vs H P) (hH : s.H = H) (hw : Wr m H)
  (hq : ∀ r H', P r H' → go E m ts { s with H := H', ρ := Ah s.ρ d (.val r) } Q) : Cj E m draw f (some vs) s d ts Q := by
 subst hH
 exact aV (fun m' _ h2 _ _ => h m' h2) hw hq
theorem Wr.pre {H H' : Hp} (h : Wr m H) (hp : H <+: H') : Wr m H' := fun id hid => h id (C8 hp.length_le hid)
theorem Aw.fun {f : Nat} {vs : List Value} {H : Hp} {r : Value} (h : Aw E f vs H r) (hw : ∀ id, H.length ≤ id → m.wr id = true) {Q : Value → Hp → Prop} (hq : Q r H) : Ci E m f vs H Q :=
 (h m hw).mono fun _ _ ⟨e1, e2⟩ => by subst e1; subst e2; exact hq
def Sl {α : Type} (R : α → List Value → Prop) (esz : Nat) (H : Hp) (v : Value) (l : List α) : Prop :=
 (v = .slice none 0 0 ∧ l = []) ∨ ∃ id off cap o, v = .slice (some ⟨id, off, some esz⟩) l.length cap ∧ H[id]? = some o ∧ off + cap = o.length ∧ l.length * esz ≤ cap ∧ l.length ≤ 9223372036854775807 ∧
  ∀ i a, l[i]? = some a → R a ((o.drop (off + i * esz)).take esz)
def En {α : Type} (enc : α → List Value) (a : α) (cs : List Value) : Prop := cs = enc a
def eI (n : Int) : List Value := [.int .i64 n]
theorem Al {o : List Value} {a n j : Nat} {cs : List Value} (h : (o.drop a).take n = cs) (hj : j < n) : o[a + j]? = cs[j]? := by
 subst h
 rw [List.getElem?_take, if_pos hj, List.getElem?_drop]
section
variable {α : Type} {R : α → List Value → Prop} {esz : Nat} {H : Hp} {v : Value} {l : List α}
theorem Sl.len (h : Sl R esz H v l) {s : St} {x : X} (hx : Av s.ρ x = some v) : Lm s x = some (.val (.int .i64 l.length), s) := by
 unfold Lm
 rw [hx]
 rcases h with ⟨rfl, rfl⟩ | ⟨id, off, cap, o, rfl, _⟩ <;> rfl
theorem Sl.room (h : Sl R esz H v l) : l.length ≤ 9223372036854775807 := by
 rcases h with ⟨rfl, rfl⟩ | ⟨id, off, cap, o, rfl, ho, hc, hn, hrm, hr⟩
 ·simp
 ·exact hrm
theorem Sl.elem (h : Sl R esz H v l) {i : Nat} {a : α} (hi : l[i]? = some a) : ∃ id p o, H[id]? = some o ∧ R a ((o.drop p).take esz) ∧ p + esz ≤ o.length ∧
  ∀ (s : St) (x y : X), Av s.ρ x = some v → Av s.ρ y = some (.int .i64 i) → B4 s esz x y = some (.val (.pointer (some ⟨id, p, some o.length⟩)), s) := by
 have hl := (Em hi).1
 rcases h with ⟨rfl, rfl⟩ | ⟨id, off, cap, o, rfl, ho, hc, hn, hrm, hr⟩
 ·simp at hi
 ·have hm : (i + 1) * esz ≤ l.length * esz := Nat.mul_le_mul_right _ (by omega)
  rw [Nat.succ_mul] at hm
  refine ⟨id, off + i * esz, o, ho, hr i a hi, by omega, fun s x y hx hy => ?_⟩
  unfold B4
  rw [hx, hy]
  simp only [Int.toNat_natCast, hc]
  rw [if_pos ⟨trivial, by omega, by omega⟩]
theorem Sl.take (h : Sl R esz H v l) {i : Nat} (hi : i ≤ l.length) : ∃ v', Sl R esz H v' (l.take i) ∧
  ∀ (s : St) (x y : X), Av s.ρ x = some v → Av s.ρ y = some (.int .i64 i) → Ih s esz x none (some y) = some (.val v', s) := by
 rcases h with ⟨rfl, rfl⟩ | ⟨id, off, cap, o, rfl, ho, hc, hn, hrm, hr⟩
 ·simp at hi
  subst hi
  refine ⟨.slice none 0 0, .inl ⟨rfl, by simp⟩, fun s x y hx hy => ?_⟩
  simp only [Ih, J7, hx, hy]
  rfl
 ·have hm : i * esz ≤ l.length * esz := Nat.mul_le_mul_right _ hi
  refine ⟨.slice (some ⟨id, off, some esz⟩) i cap, .inr ⟨id, off, cap, o, by rw [List.length_take, Nat.min_eq_left hi], ho, hc, by rw [List.length_take, Nat.min_eq_left hi]; omega, by rw [List.length_take]; omega, fun j a hj => ?_⟩, fun s x y hx hy => ?_⟩
  ·rw [List.getElem?_take] at hj
   split at hj
   ·exact hr j a hj
   ·cases hj
  ·simp only [Ih, J7, hx, hy]
   rw [if_pos ⟨trivial, by omega, by omega, .inl (by omega), by simp⟩]
   simp [St.val]
theorem Sl.frame {R' : α → List Value → Prop} {H' : Hp} (h : Sl R esz H v l) (hr : ∀ a ∈ l, ∀ cs, R a cs → R' a cs) (hH : ∀ id off e len cap, v = .slice (some ⟨id, off, e⟩) len cap → H'[id]? = H[id]?) : Sl R' esz H' v l := by
 rcases h with ⟨rfl, rfl⟩ | ⟨id, off, cap, o, rfl, ho, hc, hn, hrm, hr2⟩
 ·exact .inl ⟨rfl, rfl⟩
 ·exact .inr ⟨id, off, cap, o, rfl, by rw [hH _ _ _ _ _ rfl]; exact ho, hc, hn, hrm, fun i a hi => hr a (List.mem_of_getElem? hi) _ (hr2 i a hi)⟩
end
def Pj (v : Option Value) (tr : Bool) (H H' : Hp) (Q : Value → Hp → Prop) : Prop :=
 match v with
 | some v => (tr = true → A8 v = true) ∧ Q v (if tr = true then H'.take H.length else H')
 | none => False
theorem Ow {f : Nat} {res : List RV} {H : Hp} {Q : Value → Hp → Prop} {s : St} : Nn E f res H Q .ret s = Pj (D5 s res) (E.tr f) H s.H Q := by
 unfold Nn Ss Pj
 simp only
 cases D5 s res with
 | none => rfl
 | some v => cases E.tr f <;> simp
theorem M7 {f : Nat} {res : List RV} {H : Hp} {Q : Value → Hp → Prop} {s : St} : Nn E f res H Q .normal s = Pj (D5 s res) (E.tr f) H s.H Q := by
 rw [← Ow]; rfl
theorem Cd {v : Value} {H H' : Hp} {Q : Value → Hp → Prop} : Pj (some v) true H H' Q = (A8 v = true ∧ Q v (H'.take H.length)) := by simp [Pj]
theorem Cg {v : Value} {H H' : Hp} {Q : Value → Hp → Prop} : Pj (some v) false H H' Q = Q v H' := by simp [Pj]
theorem Cy (b : Bool) : A8 (.bool b) = true := rfl
theorem Df (k : IntKind) (n : Int) : A8 (.int k n) = true := rfl
theorem De (n : ByteArray) : A8 (.string n) = true := rfl
def Xl (res : List RV) (tr : Bool) (H : Hp) (Q : Value → Hp → Prop) (e : Ex) (s : St) : Prop :=
 match e with
 | .exit _ => False
 | _ => Pj (D5 s res) tr H s.H Q
theorem Ds {res : List RV} {tr : Bool} {H : Hp} {Q : Value → Hp → Prop} {s : St} : Xl res tr H Q .ret s = Pj (D5 s res) tr H s.H Q := rfl
theorem B3 {res : List RV} {tr : Bool} {H : Hp} {Q : Value → Hp → Prop} {s : St} : Xl res tr H Q .normal s = Pj (D5 s res) tr H s.H Q := rfl
def aG (res : List RV) (H : Hp) (r : Value) (e : Ex) (s : St) : Prop :=
 match e with
 | .exit _ => False
 | _ => D5 s res = some r ∧ s.H.take H.length = H
theorem Cw {res : List RV} {H : Hp} {r : Value} {s : St} : aG res H r .ret s = (D5 s res = some r ∧ s.H.take H.length = H) := rfl
theorem Bs {res : List RV} {H : Hp} {r : Value} {s : St} : aG res H r .normal s = (D5 s res = some r ∧ s.H.take H.length = H) := rfl
theorem Ut {f : Nat} {cf : CF} {vs : List Value} {H : Hp} {Q : Value → Hp → Prop} {tr : Bool} (ht : E.tr f = tr) (hp : E.prim f = none) (hf : E.fns f = some cf) (hl : vs.length ≤ cf.nt)
  (h : go E { m with nr := m.nr || tr } [.c cf.body] { ρ := Cb vs, gn := 1, H := H } (Xl cf.res tr H Q)) : Ci E m f vs H Q := by
 subst ht
 refine Ci.intro hp hf hl ((Z4 h).mono fun e s' h' => ?_)
 cases e with
 | normal => rw [M7]; exact h'
 | exit j => exact h'
 | ret => rw [Ow]; exact h'
theorem Bt {f : Nat} {cf : CF} {vs : List Value} {H : Hp} {Q : Value → Hp → Prop} (ht : E.tr f = false) (hp : E.prim f = none) (hf : E.fns f = some cf) (hl : vs.length ≤ cf.nt)
  (h : go E m [.c cf.body] { ρ := Cb vs, gn := 1, H := H } (Xl cf.res false H Q)) : Ci E m f vs H Q :=
 Ut ht hp hf hl (by rw [Bool.or_false]; exact h)
theorem Ag {f : Nat} {cf : CF} {vs : List Value} {H : Hp} {r : Value} (ht : E.tr f = true) (hp : E.prim f = none) (hf : E.fns f = some cf) (hl : vs.length ≤ cf.nt) (hr : A8 r = true)
  (h : ∀ m : Md, Wr m H → go E m [.c cf.body] { ρ := Cb vs, gn := 1, H := H } (aG cf.res H r)) : Aw E f vs H r := by
 intro m hw
 refine Ci.intro hp hf hl ((Z4 (h { m with nr := m.nr || E.tr f } hw)).mono fun e s' h' => ?_)
 cases e with
 | normal => rw [M7, h'.1, ht, Cd]; exact ⟨hr, rfl, h'.2⟩
 | exit j => exact h'
 | ret => rw [Ow, h'.1, ht, Cd]; exact ⟨hr, rfl, h'.2⟩
theorem Ak {s : St} {Q : Ex → St → Prop} {ts : List Tk} {b : Nat} {c : CC} (N : Nat) (I : Nat → St → Prop) (P : St → Prop) (h0 : I 0 s)
  (step : ∀ i s, i ≤ N → I i s → go E m [.c c] s fun e s' => match e with
   | .normal => i < N ∧ I (i + 1) s'
   | .exit j => j = b ∧ P s'
   | .ret => Q .ret s')
  (hp : ∀ s, P s → go E m ts s Q) : go E m (.c (.loop c) :: .blk b :: ts) s Q := by
 refine Fq (fun n s => ∃ i, n = N - i ∧ i ≤ N ∧ I i s) P N ⟨0, by simp, by simp, h0⟩ (fun n s h => ?_) hp
 obtain ⟨i, rfl, hi, hI⟩ := h
 refine bQ (step i s hi hI) fun e s' h => ?_
 cases e with
 | normal => exact ⟨N - (i + 1), by omega, i + 1, rfl, by omega, h.2⟩
 | exit j => exact h
 | ret => exact h
theorem Ey (o : List Value) (i : Nat) : spl o i [] = o := rfl
theorem Iy : ∀ (cs : List Value) (x : Value) (xs : List Value) (c : Value), spl (x :: xs) 0 (c :: cs) = c :: spl xs 0 cs := by
 have h : ∀ (cs : List Value) (x : Value) (xs : List Value) (i : Nat), spl (x :: xs) (i + 1) cs = x :: spl xs i cs := by
  intro cs
  induction cs with
  | nil => intros; rfl
  | cons c cs ih => intro x xs i; rw [spl, spl, List.set_cons_succ, ih]
 intro cs x xs c
 rw [spl, List.set_cons_zero, h]
theorem Gg (cs : List Value) : ∀ (x : Value) (xs : List Value) (i : Nat), spl (x :: xs) (i + 1) cs = x :: spl xs i cs := by
 induction cs with
 | nil => intros; rfl
 | cons c cs ih => intro x xs i; rw [spl, spl, List.set_cons_succ, ih]
section
variable (cs : List Value) (x : Value) (xs : List Value)
theorem Jm : spl (x :: xs) 1 cs = x :: spl xs 0 cs := Gg cs x xs 0
theorem Jl : spl (x :: xs) 2 cs = x :: spl xs 1 cs := Gg cs x xs 1
theorem I4 : spl (x :: xs) 3 cs = x :: spl xs 2 cs := Gg cs x xs 2
theorem Jf : spl (x :: xs) 4 cs = x :: spl xs 3 cs := Gg cs x xs 3
theorem I9 : spl (x :: xs) 5 cs = x :: spl xs 4 cs := Gg cs x xs 4
theorem Iv : spl (x :: xs) 6 cs = x :: spl xs 5 cs := Gg cs x xs 5
theorem I8 : spl (x :: xs) 7 cs = x :: spl xs 6 cs := Gg cs x xs 6
theorem Iu : spl (x :: xs) 8 cs = x :: spl xs 7 cs := Gg cs x xs 7
end
theorem E0 (z : List Value) : Bn 0 z = [] := rfl
theorem C7 (z : List Value) : Bn 1 z = z := by simp [Bn]
theorem Ew (z : List Value) : Bn 2 z = z ++ z := by simp [Bn, List.replicate_succ]
theorem E3 (z : List Value) : Bn 3 z = z ++ (z ++ z) := by simp [Bn, List.replicate_succ]
theorem Dv (z : List Value) : Bn 4 z = z ++ (z ++ (z ++ z)) := by simp [Bn, List.replicate_succ]
theorem Gm (cs : Array Value) : vc (.agg cs) = some cs.toList := rfl
theorem Gn (k : IntKind) (n : Int) : vc (.int k n) = some [.int k n] := rfl
theorem Et (b : Bool) : vc (.bool b) = some [.bool b] := rfl
theorem G5 (b : ByteArray) : vc (.string b) = some [.string b] := rfl
theorem G0 (p : Option Addr) : vc (.pointer p) = some [.pointer p] := rfl
theorem Iz (a : Option Addr) (l c : Nat) : vc (.slice a l c) = some [.slice a l c] := rfl
theorem Jd (f : Fn) (a c : Array Value) : vc (.func f a c) = some [.func f a c] := rfl
theorem Sl.vc {α : Type} {R : α → List Value → Prop} {esz : Nat} {H : Hp} {v : Value} {l : List α} (h : Sl R esz H v l) : vc v = some [v] := by
 rcases h with ⟨rfl, _⟩ | ⟨_, _, _, _, rfl, _⟩ <;> rfl
theorem Dm (k : IntKind) (n : Int) : scal (.int k n) = true := rfl
theorem Cx (b : Bool) : scal (.bool b) = true := rfl
theorem Dn (b : ByteArray) : scal (.string b) = true := rfl
theorem Bi : scal (.slice none 0 0) = true := rfl
theorem Ab (n : Int) (h0 : -9223372036854775808 ≤ n) (h1 : n < 9223372036854775808) : IntKind.i64.wrap n = n := by
 simp [IntKind.wrap, IntKind.bits, IntKind.signed]
 omega
end
def Ao (N : Nat) (v : Value) : Prop := v = .slice none 0 0 ∨ ∃ id e len cap, v = .slice (some ⟨id, 0, some e⟩) len cap ∧ N ≤ id
theorem A3 (o : List Value) (p n j : Nat) : ((o.drop p).take n)[j]? = if j < n then o[p + j]? else none := by
 rw [List.getElem?_take]
 split <;> simp [List.getElem?_drop]
theorem Zo {o cs : List Value} {p : Nat} (h : p + cs.length ≤ o.length) : ((spl o p cs).drop p).take cs.length = cs := by
 refine List.ext_getElem? fun j => ?_
 rw [A3]
 by_cases hj : j < cs.length
 ·rw [if_pos hj, Ec, if_pos (by omega), if_pos (by omega), show p + j - p = j by omega]
 ·rw [if_neg hj, List.getElem?_eq_none (by omega)]
theorem Pw {o cs : List Value} {p q n : Nat} (h : q + n ≤ p ∨ p + cs.length ≤ q) : ((spl o p cs).drop q).take n = (o.drop q).take n := by
 refine List.ext_getElem? fun j => ?_
 rw [A3, A3]
 by_cases hj : j < n
 ·rw [if_pos hj, if_pos hj, Ec, if_neg (by omega)]
 ·rw [if_neg hj, if_neg hj]
theorem K9 {H0 H : Hp} {id : Nat} {r : List Value} (h : H0 <+: H) (hid : H0.length ≤ id) : H0 <+: H.set id r := by
 obtain ⟨t, rfl⟩ := h
 exact ⟨t.set (id - H0.length) r, by rw [List.set_append_right _ _ hid]⟩
theorem bB {H0 H : Hp} {r : List Value} (h : H0 <+: H) : H0 <+: H ++ [r] := by
 obtain ⟨t, rfl⟩ := h
 exact ⟨t ++ [r], by simp⟩
theorem Fz {H0 H : Hp} (h : H0 <+: H) : H.take H0.length = H0 := by
 obtain ⟨t, rfl⟩ := h
 simp
theorem Ed {H0 H : Hp} (h : H0 <+: H) {id : Nat} (hid : id < H0.length) : H[id]? = H0[id]? := by
 obtain ⟨t, rfl⟩ := h
 rw [List.getElem?_append_left hid]
section
variable {α : Type} {R : α → List Value → Prop} {esz : Nat} {H : Hp} {v : Value} {l : List α}
theorem Sl.pre {H' : Hp} (h : Sl R esz H v l) (hp : H <+: H') : Sl R esz H' v l := by
 rcases h with ⟨rfl, rfl⟩ | ⟨id, off, cap, o, rfl, ho, hc, hn, hrm, hr⟩
 ·exact .inl ⟨rfl, rfl⟩
 ·exact .inr ⟨id, off, cap, o, rfl, by rw [Ed hp (Em ho).1]; exact ho, hc, hn, hrm, hr⟩
theorem Sl.ids (h : Sl R esz H v l) : ∀ id ∈ Ae v, id < H.length := by
 rcases h with ⟨rfl, rfl⟩ | ⟨id, off, cap, o, rfl, ho, _⟩
 ·simp [Ae]
 ·simp only [Ae, List.mem_singleton]
  rintro _ rfl
  exact (Em ho).1
theorem Sl.other {r : List Value} {id : Nat} (h : Sl R esz H v l) (hid : id ∉ Ae v) : Sl R esz (H.set id r) v l := by
 rcases h with ⟨rfl, rfl⟩ | ⟨id', off, cap, o, rfl, ho, hc, hn, hrm, hr⟩
 ·exact .inl ⟨rfl, rfl⟩
 ·simp only [Ae, List.mem_singleton] at hid
  exact .inr ⟨id', off, cap, o, rfl, by rw [List.getElem?_set_ne (by omega)]; exact ho, hc, hn, hrm, hr⟩
theorem Sl.store (h : Sl R esz H v l) {i : Nat} (hi : i < l.length) : ∃ id p o, H[id]? = some o ∧ p + esz ≤ o.length ∧ Ae v = [id] ∧
  (∀ (s : St) (x y : X), Av s.ρ x = some v → Av s.ρ y = some (.int .i64 i) → B4 s esz x y = some (.val (.pointer (some ⟨id, p, some o.length⟩)), s)) ∧
  ∀ a cs, cs.length = esz → R a cs → Sl R esz (H.set id (spl o p cs)) v (l.set i a) := by
 rcases h with ⟨rfl, rfl⟩ | ⟨id, off, cap, o, rfl, ho, hc, hn, hrm, hr⟩
 ·simp at hi
 ·have hm : (i + 1) * esz ≤ l.length * esz := Nat.mul_le_mul_right _ (by omega)
  rw [Nat.succ_mul] at hm
  have hid := (Em ho).1
  refine ⟨id, off + i * esz, o, ho, by omega, rfl, fun s x y hx hy => ?_, fun a cs hcs hRa => .inr ⟨id, off, cap, spl o (off + i * esz) cs, by rw [List.length_set], by rw [List.getElem?_set_self hid], by rw [Cq]; exact hc, by rw [List.length_set]; exact hn, by rw [List.length_set]; exact hrm, fun j b hj => ?_⟩⟩
  ·unfold B4
   rw [hx, hy]
   simp only [Int.toNat_natCast, hc]
   rw [if_pos ⟨trivial, by omega, by omega⟩]
  ·rw [List.getElem?_set] at hj
   split at hj
   ·rename_i hij
    subst hij
    cases hj
    have := Zo (o := o) (cs := cs) (p := off + i * esz) (by omega)
    rw [hcs] at this
    rw [this]
    exact hRa
   ·rename_i hij
    rw [Pw]
    ·exact hr j b hj
    ·rw [hcs]
     by_cases hlt : j < i
     ·have : (j + 1) * esz ≤ i * esz := Nat.mul_le_mul_right _ (by omega)
      rw [Nat.succ_mul] at this
      exact .inl (by omega)
     ·have : (i + 1) * esz ≤ j * esz := Nat.mul_le_mul_right _ (by omega)
      rw [Nat.succ_mul] at this
      exact .inr (by omega)
end
section
open Go Go.ChangeShapes Go.WideShapes Go.RowKit
def qB (w : World) : Prop := ∃ (b : Nat) (ds : Array Value) (e : TypeId) (lo hi : Nat), w.heap[b]? = some (.cells ds e (lo, hi))
def Ga (J : Bk) (M : Hp) (w : World) : Prop := Dx M.length J M w
def Vf (J : Bk) (M : Hp) (J' : Bk) (M' : Hp) : Prop := M <+: M' ∧ ∀ id, id < M.length → J' id = J id
theorem Vf.refl (J : Bk) (M : Hp) : Vf J M J M := ⟨List.prefix_refl _, fun _ _ => rfl⟩
theorem Vf.trans {J J' J'' : Bk} {M M' M'' : Hp} (h : Vf J M J' M') (k : Vf J' M' J'' M'') : Vf J M J'' M'' :=
 ⟨h.1.trans k.1, fun id hid => (k.2 id (J3 hid h.1.length_le)).trans (h.2 id hid)⟩
theorem Vf.keep {J J' : Bk} {M M' : Hp} (h : Vf J M J' M') : Lx J M J' M' := fun id o ho =>
 ⟨o, by rw [Ed h.1 (Em ho).1]; exact ho, .inr ⟨rfl, h.2 id (Em ho).1⟩⟩
structure Ni {α : Type} (P : Program) (t : TypeId) (sz : Nat) (R : Hp → α → List Value → Prop) (ok : α → Prop) : Prop where
 cells : P.cellsOf t = sz
 pos : 0 < sz
 mono : ∀ {M M' : Hp} {z : α} {vs : List Value}, M <+: M' → R M z vs → R M' z vs
 bld : ∀ {H : Type} {enc : TypeId × Value → H} {w : World} {base : Nat} {held : Bool} {fuel : Nat} {cs : List Value} {x : DataW H × List MemPlace},
  DataW.trod enc P w base (fun _ => true) held fuel t cs = some x → (∀ a l c, .slice (some a) l c ∈ cs → qB w) → ∀ (J : Bk) (M : Hp), Ga J M w →
  ∃ (J' : Bk) (M' : Hp) (vs : List Value) (z : α), Vf J M J' M' ∧ Ga J' M' w ∧ A7 J' M' vs cs ∧ (∀ v ∈ vs, v.oneCell' = true) ∧ R M' z vs ∧ ok z
theorem Ga.nil (w : World) : Ga (fun _ => none) [] w :=
 ⟨fun id o h => by simp at h, fun _ _ _ _ _ _ h _ => by simp at h, fun _ _ => rfl⟩
section
variable {P : Program}
theorem Ni.int {k : IntKind} {t : TypeId} (ht : P.underlying t = some (.int k)) (hc : P.cellsOf t = 1) : Ni P t 1 (fun _ n vs => vs = [.int k n]) (fun n => (Lit.int k n).wf = true) :=
 ⟨hc, by omega, fun _ h => h, fun h _ J M hr => by
  obtain ⟨n, rfl, _, hw⟩ := DataW.trod_int ht h
  exact ⟨J, M, _, n, .refl _ _, hr, .cons (.int k n) .nil, by simp [Value.oneCell'], rfl, hw⟩⟩
theorem Ni.bool {t : TypeId} (ht : P.underlying t = some .bool) (hc : P.cellsOf t = 1) : Ni P t 1 (fun _ b vs => vs = [.bool b]) (fun _ => True) :=
 ⟨hc, by omega, fun _ h => h, fun h _ J M hr => by
  obtain ⟨n, rfl, _⟩ := DataW.trod_bool ht h
  exact ⟨J, M, _, n, .refl _ _, hr, .cons (.bool n) .nil, by simp [Value.oneCell'], rfl, trivial⟩⟩
theorem Ni.string {t : TypeId} (ht : P.underlying t = some .string) (hc : P.cellsOf t = 1) : Ni P t 1 (fun _ s vs => vs = [.string s]) (fun s => s.size ≤ maxLen) :=
 ⟨hc, by omega, fun _ h => h, fun h _ J M hr => by
  obtain ⟨n, rfl, _, hw⟩ := DataW.trod_string ht h
  exact ⟨J, M, _, n, .refl _ _, hr, .cons (.str n) .nil, by simp [Value.oneCell'], rfl, hw⟩⟩
theorem Ga.push {J : Bk} {M : Hp} {w : World} (h : Ga J M w) {l : dU} {ds : Array Value} {e : TypeId} {lo hi : Nat} {o : List Value} (hb : w.heap[l.b]? = some (.cells ds e (lo, hi))) (hs : ds.size = l.sz) (hl : l.sh + o.length ≤ l.sz)
  (ho : A7 J M o ((ds.toList.drop l.sh).take o.length)) (h1 : ∀ v ∈ o, v.oneCell' = true) :
  Vf J M (fun id => if id = M.length then some l else J id) (M ++ [o]) ∧ Ga (fun id => if id = M.length then some l else J id) (M ++ [o]) w := by
 have hx : Vf J M (fun id => if id = M.length then some l else J id) (M ++ [o]) := ⟨Eg, fun id hid => by show (if id = M.length then some l else J id) = J id; rw [if_neg (by omega)]⟩
 refine ⟨hx, fun id o2 ho2 => ?_, fun id id' l2 l' hne hB hl1 hl2 => ?_, fun id hid => ?_⟩
 ·have hid := (Em ho2).1
  rw [List.length_append, List.length_singleton] at hid
  by_cases he : id = M.length
  ·subst he
   rw [List.getElem?_append_right (Nat.le_refl _), Nat.sub_self] at ho2
   cases ho2
   refine ⟨l, ds, e, lo, hi, by simp, hb, hs, hl, fun i v hv => ⟨h1 v (List.mem_of_getElem? hv), ?_⟩, fun hB => by rw [List.length_append, List.length_singleton] at hB; omega⟩
   obtain ⟨y, hy, hr⟩ := ho.get hv
   have hi2 := (Em hv).1
   refine ⟨y, ?_, hr.keep hx.keep⟩
   rw [A3, if_pos hi2, Array.getElem?_toList] at hy
   exact hy
  ·rw [List.getElem?_append_left (by omega)] at ho2
   obtain ⟨l2, ds2, e2, lo2, hi2, a1, a2, a3, a4, a5, _⟩ := h.row id o2 ho2
   refine ⟨l2, ds2, e2, lo2, hi2, by show (if id = M.length then some l else J id) = some l2; rw [if_neg he]; exact a1, a2, a3, a4, fun i v hv => ?_, fun hB => by rw [List.length_append, List.length_singleton] at hB; omega⟩
   obtain ⟨b1, d, b2, b3⟩ := a5 i v hv
   exact ⟨b1, d, b2, b3.keep hx.keep⟩
 ·rw [List.length_append, List.length_singleton] at hB
  have hl1 : (if id = M.length then some _ else J id) = some l2 := hl1
  rw [if_neg (by omega), h.dom id (by omega)] at hl1
  cases hl1
 ·rw [List.length_append, List.length_singleton] at hid
  show (if id = M.length then some l else J id) = none
  rw [if_neg (by omega)]
  exact h.dom id (by omega)
end
end
section
open Go Go.ChangeShapes Go.WideShapes Go.RowKit
theorem Rp (a : Addr) (m j : Nat) : (a.add m).add j = a.add (m + j) := by
 unfold Addr.add
 by_cases hm : m = 0
 ·subst hm; simp
 ·by_cases hj : j = 0
  ·subst hj; simp [hm]
  ·simp [hm, hj, Nat.add_assoc]
theorem P5 {w : World} {a : Addr} {k : Nat} {v : Value} (h : w.cell? (a.add k) = some v) (hs : k = 0 → a.spot = none) :
  ∃ (ds : Array Value) (e : TypeId) (lo hi : Nat), w.heap[a.block]? = some (.cells ds e (lo, hi)) ∧ ds[a.off + k]? = some v := by
 have hb : (a.add k).block = a.block := by unfold Addr.add; split <;> rfl
 have ho : (a.add k).off = a.off + k := by
  unfold Addr.add
  split
  ·rename_i hk; subst hk; rfl
  ·rfl
 unfold World.cell? at h
 rw [hb, ho] at h
 split at h
 ·rename_i c e r hc
  split at h
  ·cases h
  ·exact ⟨c, e, r.1, r.2, hc, h⟩
 ·cases h
theorem X2 {w : World} {a : Addr} {v : Value} (h : w.cell? (a.add 0) = some v) : a.spot = none := by
 have : a.add 0 = a := by simp [Addr.add]
 rw [this] at h
 unfold World.cell? at h
 split at h
 ·split at h
  ·cases h
  ·rename_i hs
   cases hsp : a.spot with
   | none => rfl
   | some x => rw [hsp] at hs; exact absurd rfl hs
 ·cases h
section
variable {P : Program}
theorem Ni.slice {α : Type} {R : Hp → α → List Value → Prop} {ok : α → Prop} {t e : TypeId} {sz : Nat} (ht : P.underlying t = some (.slice e)) (hc : P.cellsOf t = 1) (he : Ni P e sz R ok) :
  Ni P t 1 (fun M l vs => ∃ v, vs = [v] ∧ Sl (R M) sz M v l) (fun l => l.length ≤ maxLen ∧ ∀ x ∈ l, ok x) := by
 refine ⟨hc, by omega, fun {M M' z vs} hp ⟨v, h1, h2⟩ => ⟨v, h1, (h2.pre hp).frame (fun a _ cs h => he.mono hp h) fun _ _ _ _ _ _ => rfl⟩, ?_⟩
 intro H enc w base held fuel cs x h hb J M hr
 rcases DataW.trod_slice ht h with ⟨rfl, _⟩ | ⟨a, len, cap, elems, rest, n, _, rfl, _, hbase, hlc, hm, hlen, hel, hre, _⟩
 ·exact ⟨J, M, _, [], .refl _ _, hr, .cons .nsl .nil, by simp [Value.oneCell'], ⟨_, rfl, .inl ⟨rfl, rfl⟩⟩, by simp⟩
 ·have hpos := he.pos
  have hesz := he.cells
  have hblk : qB w := hb a len cap (by simp)
  have hread : ∀ i, i < cap → ∃ c, w.cells? base (a.add (i * sz)) sz = some c ∧ (i < len → ∃ y, DataW.trod enc P w base (fun _ => true) held n e c = some y) := fun i hi => by
   by_cases hil : i < len
   ·have h1 := hel i hil
    rw [B7 (by omega), hesz] at h1
    obtain ⟨c, h2, h3⟩ := Option.bind_eq_some_iff.1 h1
    exact ⟨c, h2, fun _ => ⟨_, h3⟩⟩
   ·obtain ⟨h1, h2⟩ := hre rfl
    have h3 := h2 (i - len) (by omega)
    rw [B7 (by omega), hesz, show len + (i - len) = i by omega] at h3
    obtain ⟨c, h4, h5⟩ := Option.bind_eq_some_iff.1 h3
    exact ⟨c, h4, fun h => absurd h hil⟩
  have key : ∀ m, m ≤ len → ∃ (J' : Bk) (M' : Hp) (vs rc : List Value) (z : List α), Vf J M J' M' ∧ Ga J' M' w ∧ A7 J' M' vs rc ∧ (∀ v ∈ vs, v.oneCell' = true) ∧ vs.length = m * sz ∧
    (∀ k, k < m * sz → w.cell? (a.add k) = rc[k]?) ∧ z.length = m ∧ ∀ i x, z[i]? = some x → R M' x ((vs.drop (i * sz)).take sz) ∧ ok x := fun m => by
   induction m with
   | zero => exact fun _ => ⟨J, M, [], [], [], .refl _ _, hr, .nil, by simp, by simp, fun k hk => by omega, rfl, fun i x hx => by simp at hx⟩
   | succ m ih =>
    intro hml
    obtain ⟨J1, M1, vs1, rc1, z1, e1, r1, l1, o1, n1, c1, zl1, zr1⟩ := ih (by omega)
    obtain ⟨c, hc1, hc2⟩ := hread m (by omega)
    obtain ⟨y, hy⟩ := hc2 (by omega)
    obtain ⟨_, hcl, hcell⟩ := World.cells?_some hc1
    obtain ⟨J2, M2, vs2, z2, e2, r2, l2, o2, p2, k2⟩ := he.bld hy (fun _ _ _ _ => hblk) J1 M1 r1
    have hv2 : vs2.length = sz := by rw [l2.1, hcl]
    refine ⟨J2, M2, vs1 ++ vs2, rc1 ++ c, z1 ++ [z2], e1.trans e2, r2, (l1.keep e2.keep).append l2, fun v hv => ?_, by rw [List.length_append, n1, hv2, Nat.succ_mul], fun k hk => ?_, by simp [zl1], fun i x hx => ?_⟩
    ·rcases Lh hv with h | h
     ·exact o1 v h
     ·exact o2 v h
    ·have hrc : rc1.length = m * sz := by rw [← l1.1, n1]
     by_cases hkm : k < m * sz
     ·rw [List.getElem?_append_left (by omega)]
      exact c1 k hkm
     ·rw [Nat.succ_mul] at hk
      rw [List.getElem?_append_right (by omega), hrc, ← hcell (k - m * sz) (by omega), Rp, show m * sz + (k - m * sz) = k by omega]
    ·by_cases hi : i < m
     ·rw [List.getElem?_append_left (by omega)] at hx
      obtain ⟨q1, q2⟩ := zr1 i x hx
      refine ⟨?_, q2⟩
      have hle : (i + 1) * sz ≤ m * sz := Nat.mul_le_mul_right _ hi
      rw [Nat.succ_mul] at hle
      rw [List.drop_append_of_le_length (by omega), List.take_append_of_le_length (by rw [List.length_drop]; omega)]
      exact he.mono e2.1 q1
     ·have hil := (Em hx).1
      rw [List.length_append, List.length_singleton] at hil
      have him : i = m := by omega
      subst him
      rw [List.getElem?_append_right (by omega), zl1, Nat.sub_self] at hx
      cases hx
      refine ⟨?_, k2⟩
      rw [List.drop_append_of_le_length (by omega), List.drop_of_length_le (by omega), List.nil_append, List.take_of_length_le (by omega)]
      exact p2
  obtain ⟨J1, M1, vs, rc, z, e1, r1, l1, o1, n1, c1, zl, zr⟩ := key len (Nat.le_refl _)
  have fin : ∀ (l : dU) (ds : Array Value) (e' : TypeId) (lo hi : Nat), w.heap[l.b]? = some (.cells ds e' (lo, hi)) → ds.size = l.sz → l.sh + vs.length ≤ l.sz → A7 J1 M1 vs ((ds.toList.drop l.sh).take vs.length) →
    ((len = 0 ∧ cap = 0) ∨ (a = ⟨l.b, l.sh + 0, none⟩ ∧ l.sh + 0 + cap * sz ≤ l.sz)) →
    ∃ (J' : Bk) (M' : Hp) (vs : List Value) (z : List α), Vf J M J' M' ∧ Ga J' M' w ∧ A7 J' M' vs [.slice (some a) len cap] ∧ (∀ v ∈ vs, v.oneCell' = true) ∧ (∃ v, vs = [v] ∧ Sl (R M') sz M' v z) ∧ (z.length ≤ maxLen ∧ ∀ x ∈ z, ok x) := fun l ds e' lo hi h1 h2 h3 h4 h5 => by
   obtain ⟨x1, x2⟩ := r1.push h1 h2 h3 h4 o1
   refine ⟨_, _, [.slice (some ⟨M1.length, 0, some sz⟩) len (len * sz)], z, e1.trans x1, x2, .cons (.sl _ _ _ _ _ vs a cap (by simp) (by omega) hlc (Nat.mul_le_mul_right _ hlc) fun _ => ⟨l, by simp, h5⟩) .nil, by simp [Value.oneCell'], ⟨_, rfl, ?_⟩, by omega, fun y hy => ?_⟩
   ·refine .inr ⟨M1.length, 0, len * sz, vs, by rw [zl], by simp, by omega, by rw [zl]; omega, by unfold maxLen at hm; omega, fun i y hy => ?_⟩
    rw [Nat.zero_add]
    exact he.mono x1.1 (zr i y hy).1
   ·obtain ⟨i, hi⟩ := List.getElem?_of_mem hy
    exact (zr i y hi).2
  by_cases hcap : cap = 0
  ·have hl0 : len = 0 := by omega
   obtain ⟨b, ds, e', lo, hi, hbk⟩ := hblk
   have hv0 : vs = [] := List.eq_nil_of_length_eq_zero (by rw [n1, hl0]; omega)
   refine fin ⟨b, 0, ds.size⟩ ds e' lo hi hbk rfl (by rw [hv0]; simp) ?_ (.inl ⟨hl0, hcap⟩)
   rw [hv0]
   exact ⟨by simp, fun i x y hx => by simp at hx⟩
  ·obtain ⟨c0, hc0, _⟩ := hread 0 (by omega)
   obtain ⟨_, hcl0, hcell0⟩ := World.cells?_some hc0
   have q0 := hcell0 0 hpos
   rw [Rp, Nat.zero_mul, Nat.zero_add, B7 (by omega)] at q0
   have hspot := X2 q0
   obtain ⟨ds, e', lo, hi, hbk, _⟩ := P5 q0 fun _ => hspot
   have hcells : ∀ k v, w.cell? (a.add k) = some v → ds[a.off + k]? = some v := fun k v hv => by
    obtain ⟨ds2, e2, lo2, hi2, hb2, hd2⟩ := P5 hv fun _ => hspot
    rw [hbk] at hb2
    cases hb2
    exact hd2
   obtain ⟨c9, hc9, _⟩ := hread (cap - 1) (by omega)
   obtain ⟨_, hcl9, hcell9⟩ := World.cells?_some hc9
   have q9 := hcell9 (sz - 1) (by omega)
   rw [Rp, B7 (by omega)] at q9
   have hsz9 := (Array.getElem?_eq_some_iff.1 (hcells _ _ q9)).1
   have hmul : (cap - 1) * sz + sz = cap * sz := by
    rw [← Nat.succ_mul]
    congr 1
    omega
   have hlm : len * sz ≤ cap * sz := Nat.mul_le_mul_right _ hlc
   refine fin ⟨a.block, a.off, ds.size⟩ ds e' lo hi hbk rfl (by simp only; omega) ⟨?_, fun i x y hx hy => ?_⟩ (.inr ⟨?_, by simp only; omega⟩)
   ·rw [List.length_take, List.length_drop, Array.length_toList]
    show vs.length = min vs.length (ds.size - a.off)
    omega
   ·have hi2 := (Em hx).1
    obtain ⟨y2, hy2, hr2⟩ := l1.get hx
    have := c1 i (by omega)
    rw [hy2] at this
    have h3 := hcells _ _ this
    rw [A3, if_pos hi2, Array.getElem?_toList, h3] at hy
    cases hy
    exact hr2
   ·cases a
    simp only at hspot
    subst hspot
    rfl
structure Xr {α : Type} (P : Program) (sz : Nat) (R : Hp → α → List Value → Prop) (ok : α → Prop) (fs : List (TypeId × Nat)) (off : Nat) : Prop where
 pos : 0 < sz
 mono : ∀ {M M' : Hp} {z : α} {vs : List Value}, M <+: M' → R M z vs → R M' z vs
 bld : ∀ {H : Type} {enc : TypeId × Value → H} {w : World} {base : Nat} {held : Bool} {fuel : Nat} {cs : List Value}, cs.length = off + sz →
  (∀ f, f ∈ fs → ∃ y, DataW.trod enc P w base (fun _ => true) held fuel f.1 ((cs.drop f.2).take (P.cellsOf f.1)) = some y) → (∀ a l c, .slice (some a) l c ∈ cs → qB w) → ∀ (J : Bk) (M : Hp), Ga J M w →
  ∃ (J' : Bk) (M' : Hp) (vs : List Value) (z : α), Vf J M J' M' ∧ Ga J' M' w ∧ A7 J' M' vs (cs.drop off) ∧ (∀ v ∈ vs, v.oneCell' = true) ∧ R M' z vs ∧ ok z
theorem Xr.one {α : Type} {R : Hp → α → List Value → Prop} {ok : α → Prop} {t : TypeId} {sz off : Nat} (h : Ni P t sz R ok) : Xr P sz R ok [(t, off)] off :=
 ⟨h.pos, h.mono, fun {H enc w base held fuel cs} hl hf hb J M hr => by
  obtain ⟨y, hy⟩ := hf (t, off) (by simp)
  have e : (cs.drop off).take (P.cellsOf t) = cs.drop off := List.take_of_length_le (by rw [List.length_drop, h.cells]; omega)
  simp only [e] at hy
  exact h.bld hy (fun a l c hm => hb a l c (List.mem_of_mem_drop hm)) J M hr⟩
theorem Xr.cons {α β : Type} {R1 : Hp → α → List Value → Prop} {R2 : Hp → β → List Value → Prop} {ok1 : α → Prop} {ok2 : β → Prop} {t : TypeId} {s1 s2 off off' : Nat} {fs : List (TypeId × Nat)} (h : Ni P t s1 R1 ok1) (ho : off' = off + s1) (hs : Xr P s2 R2 ok2 fs off') :
  Xr P (s1 + s2) (fun M (x : α × β) vs => ∃ u v, vs = u ++ v ∧ R1 M x.1 u ∧ R2 M x.2 v) (fun x => ok1 x.1 ∧ ok2 x.2) ((t, off) :: fs) off := by
 refine ⟨by have := h.pos; omega, fun {M M' z vs} hp ⟨u, v, e, a, b⟩ => ⟨u, v, e, h.mono hp a, hs.mono hp b⟩, ?_⟩
 intro H enc w base held fuel cs hl hf hb J M hr
 obtain ⟨y, hy⟩ := hf (t, off) (by simp)
 have hl' : cs.length = off + (s1 + s2) := hl
 obtain ⟨J1, M1, vs1, z1, e1, r1, l1, o1, p1, k1⟩ := h.bld hy (fun a l c hm => hb a l c (List.mem_of_mem_drop (List.mem_of_mem_take hm))) J M hr
 obtain ⟨J2, M2, vs2, z2, e2, r2, l2, o2, p2, k2⟩ := hs.bld (by rw [ho]; omega) (fun f hff => hf f (List.mem_cons_of_mem _ hff)) hb J1 M1 r1
 refine ⟨J2, M2, vs1 ++ vs2, (z1, z2), e1.trans e2, r2, ?_, fun v hv => ?_, ⟨vs1, vs2, rfl, h.mono e2.1 p1, p2⟩, k1, k2⟩
 ·have := (l1.keep e2.keep).append l2
  rw [h.cells, ho, ← List.drop_drop, List.take_append_drop] at this
  exact this
 ·rcases Lh hv with hm | hm
  ·exact o1 v hm
  ·exact o2 v hm
theorem Ni.struct {α : Type} {R : Hp → α → List Value → Prop} {ok : α → Prop} {t : TypeId} {sz : Nat} {fs : Array Field} (ht : P.underlying t = some (.struct fs)) (hc : P.cellsOf t = sz) (hs : Xr P sz R ok (fs.toList.map fun f => (f.type, f.offset)) 0) : Ni P t sz R ok := by
 refine ⟨hc, hs.pos, hs.mono, fun {H enc w base held fuel cs x} h hb J M hr => ?_⟩
 obtain ⟨xs, n, _, _, hl, hxl, hx⟩ := DataW.trod_struct ht h
 have := hs.bld (enc := enc) (w := w) (base := base) (held := held) (fuel := n) (cs := cs) (by rw [hl, hc]; omega) (fun y hy => by
  obtain ⟨fl, hfl, rfl⟩ := List.mem_map.1 hy
  obtain ⟨i, hi⟩ := List.getElem?_of_mem hfl
  have hi' : fs[i]? = some fl := by rw [← hi]; simp
  have := hx i fl hi'
  have hlt : i < xs.length := by
   have := (Em hi).1
   simp at this
   omega
  rw [B7 hlt] at this
  exact ⟨_, this⟩) hb J M hr
 simpa using this
theorem Ni.conv {α β : Type} {R : Hp → α → List Value → Prop} {R' : Hp → β → List Value → Prop} {ok : α → Prop} {ok' : β → Prop} {t : TypeId} {sz : Nat} (h : Ni P t sz R ok) (f : α → β) (hR : ∀ M z vs, R M z vs → R' M (f z) vs) (hm : ∀ {M M' : Hp} {z : β} {vs : List Value}, M <+: M' → R' M z vs → R' M' z vs) (hk : ∀ z, ok z → ok' (f z)) : Ni P t sz R' ok' :=
 ⟨h.cells, h.pos, hm, fun ht hb J M hr => by
  obtain ⟨J', M', vs, z, a1, a2, a3, a4, a5, a6⟩ := h.bld ht hb J M hr
  exact ⟨J', M', vs, f z, a1, a2, a3, a4, hR _ _ _ a5, hk _ a6⟩⟩
end
end
section
open Go Go.ChangeShapes Go.WideShapes Go.RowKit
structure Ik {α : Type} (P : Program) (t : TypeId) (V : Hp → α → Value → Prop) (ok : α → Prop) : Prop where
 mono : ∀ {M M' : Hp} {z : α} {v : Value}, M <+: M' → V M z v → V M' z v
 arg : ∀ {H : Type} {enc : TypeId × Value → H} {w : World} {v : Value} {D : DataW H} {ps : List MemPlace} {base : Nat}, DataW.Trod enc P w 0 (fun _ => true) true t v D ps → Value.okWide P w .any base t v → ∀ (J : Bk) (M : Hp), Ga J M w →
  ∃ (J' : Bk) (M' : Hp) (u : Value) (z : α), Vf J M J' M' ∧ Ga J' M' w ∧ A9 J' M' u v ∧ V M' z u ∧ ok z
section
variable {P : Program}
theorem Rh {w : World} {r : Nat} {x : TypeId × Nat} (h : w.shape? r = some x) : qB w := by
 unfold World.shape? at h
 split at h
 ·rename_i c e q hc
  exact ⟨r, c, e, q.1, q.2, hc⟩
 ·cases h
theorem Tp {w : World} {r : Reach} {base : Nat} {t : TypeId} {a : Addr} {l c : Nat} (h : Cell.okWide P w r base t (.slice (some a) l c)) : qB w := by
 unfold Cell.okWide at h
 have h2 : Cell.ok P w r base t (.slice (some a) l c) := by
  revert h
  cases P.underlying t with
  | none => exact fun h => h
  | some d => cases d <;> exact fun h => h
 unfold Cell.ok at h2
 revert h2
 cases P.underlying t with
 | none => exact fun h => h.elim
 | some d => cases d <;> first | exact fun h => h.elim | exact fun h => by obtain ⟨_, _, _, _, row, cells, hs, _⟩ := h; exact Rh hs
theorem Ik.one {α : Type} {R : Hp → α → List Value → Prop} {ok : α → Prop} {t : TypeId} (h : Ni P t 1 R ok) (hk : ∀ {w : World} {r : Reach} {base : Nat} {v : Value}, Value.okWide P w r base t v → v.cells = #[v] ∧ Cell.okWide P w r base t v) :
  Ik P t (fun M z v => R M z [v]) ok :=
 ⟨h.mono, fun {H enc w v D ps base} hT hv J M hr => by
  obtain ⟨fuel, hf⟩ := hT
  obtain ⟨hc, hcell⟩ := hk hv
  rw [hc] at hf
  obtain ⟨J', M', vs, z, a1, a2, a3, a4, a5, a6⟩ := h.bld hf (fun a l c hm => by
   have h9 : Value.slice (some a) l c = v := by simpa using hm
   rw [← h9] at hcell
   exact Tp hcell) J M hr
  obtain ⟨u, rfl⟩ : ∃ u, vs = [u] := by
   have := a3.1
   cases vs with
   | nil => simp at this
   | cons y l => cases l with
    | nil => exact ⟨y, rfl⟩
    | cons z l => simp at this
  exact ⟨J', M', u, z, a1, a2, a3.2 0 u v rfl rfl, a5, a6⟩⟩
theorem Ik.slice {α : Type} {R : Hp → α → List Value → Prop} {ok : α → Prop} {t e : TypeId} {sz : Nat} (ht : P.underlying t = some (.slice e)) (hc : P.cellsOf t = 1) (he : Ni P e sz R ok) :
  Ik P t (fun M l v => Sl (R M) sz M v l) (fun l => l.length ≤ maxLen ∧ ∀ x ∈ l, ok x) := by
 have h := Ik.one (Ni.slice ht hc he) (fun {w r base v} hv => by
  obtain ⟨a, len, cap, rfl⟩ := okWide_slice ht hv
  exact ⟨rfl, by unfold Value.okWide at hv; rw [ht] at hv; exact hv⟩)
 exact ⟨fun hp hs => by
  obtain ⟨v, e, h2⟩ := h.mono hp ⟨_, rfl, hs⟩
  cases e
  exact h2, fun hT hv J M hr => by
  obtain ⟨J', M', u, z, a1, a2, a3, ⟨v, e, h2⟩, a5⟩ := h.arg hT hv J M hr
  cases e
  exact ⟨J', M', u, z, a1, a2, a3, h2, a5⟩⟩
theorem Ik.int {k : IntKind} {t : TypeId} (ht : P.underlying t = some (.int k)) (hc : P.cellsOf t = 1) : Ik P t (fun _ n v => v = .int k n) (fun n => (Lit.int k n).wf = true) := by
 have h := Ik.one (Ni.int ht hc) (fun {w r base v} hv => by
  obtain ⟨n, rfl⟩ := okWide_int ht hv
  exact ⟨rfl, by unfold Value.okWide at hv; rw [ht] at hv; exact hv⟩)
 exact ⟨fun _ h => h, fun hT hv J M hr => by
  obtain ⟨J', M', u, z, a1, a2, a3, a4, a5⟩ := h.arg hT hv J M hr
  exact ⟨J', M', u, z, a1, a2, a3, by simpa using a4, a5⟩⟩
theorem Ik.bool {t : TypeId} (ht : P.underlying t = some .bool) (hc : P.cellsOf t = 1) : Ik P t (fun _ b v => v = .bool b) (fun _ => True) := by
 have h := Ik.one (Ni.bool ht hc) (fun {w r base v} hv => by
  obtain ⟨n, rfl⟩ := okWide_bool ht hv
  exact ⟨rfl, by unfold Value.okWide at hv; rw [ht] at hv; exact hv⟩)
 exact ⟨fun _ h => h, fun hT hv J M hr => by
  obtain ⟨J', M', u, z, a1, a2, a3, a4, a5⟩ := h.arg hT hv J M hr
  exact ⟨J', M', u, z, a1, a2, a3, by simpa using a4, a5⟩⟩
theorem Ik.string {t : TypeId} (ht : P.underlying t = some .string) (hc : P.cellsOf t = 1) : Ik P t (fun _ s v => v = .string s) (fun s => s.size ≤ maxLen) := by
 have h := Ik.one (Ni.string ht hc) (fun {w r base v} hv => by
  obtain ⟨n, rfl⟩ := okWide_string ht hv
  exact ⟨rfl, by unfold Value.okWide at hv; rw [ht] at hv; exact hv⟩)
 exact ⟨fun _ h => h, fun hT hv J M hr => by
  obtain ⟨J', M', u, z, a1, a2, a3, a4, a5⟩ := h.arg hT hv J M hr
  exact ⟨J', M', u, z, a1, a2, a3, by simpa using a4, a5⟩⟩
theorem Ik.struct {α : Type} {R : Hp → α → List Value → Prop} {ok : α → Prop} {t : TypeId} {sz : Nat} {fs : Array Field} (ht : P.underlying t = some (.struct fs)) (h : Ni P t sz R ok) :
  Ik P t (fun M z v => ∃ vs, v = .agg vs ∧ R M z vs.toList) ok :=
 ⟨fun hp ⟨vs, e, hR⟩ => ⟨vs, e, h.mono hp hR⟩, fun {H enc w v D ps base} hT hv J M hr => by
  obtain ⟨fuel, hf⟩ := hT
  have hv2 := hv
  unfold Value.okWide at hv2
  rw [ht] at hv2
  obtain ⟨cs, rfl, hsz, ts, _, _, hcs⟩ := hv2
  obtain ⟨J', M', vs, z, a1, a2, a3, a4, a5, a6⟩ := h.bld hf (fun a l c hm => by
   obtain ⟨i, hi⟩ := List.getElem?_of_mem hm
   obtain ⟨u, _, hok⟩ := hcs i _ (by simpa [Value.cells] using hi)
   exact Tp hok) J M hr
  refine ⟨J', M', .agg vs.toArray, z, a1, a2, ?_, ⟨vs.toArray, rfl, a5⟩, a6⟩
  have hl := a3.1
  refine .agg _ _ (by simpa [Value.cells] using hl) (fun i x hx => a4 x (List.mem_of_getElem? (by simpa using hx))) fun i x y hx hy => a3.2 i x y (by simpa using hx) (by simpa [Value.cells] using hy)⟩
theorem bR {E : Hb} {hv : Nat → Nat → Bool} {J : Bk} {M : Hp} {w : World} {vs : List Value} {cs : Array Value} {f : Nat} (hmix : P.follows .mixedOrders = true) (hE : E.fns = Py P hv) (hpu : D2 P ∨ ∀ f d, hv f d = false) (hp : ∀ f, E.prim f = none) (hr : Ga J M w) (hl : A7 J M vs cs.toList)
  (h : Ci E { wr := fun id => decide (M.length ≤ id), nr := false } f vs M fun r _ => r = .bool true) : Calls P f cs w fun e w' => e = .returned (.bool true) ∧ Below w.heap.size w w' := by
 obtain ⟨k, r, H', h1, rfl⟩ := h
 exact X0 hmix hE hpu (fun f p h => by rw [hp] at h; cases h) (fun f p h => by rw [hp] at h; cases h) h1 hr hl
end
end
section
variable {m : Md} {α : Type} {R : α → List Value → Prop} {esz : Nat} {H : Hp} {v : Value} {l : List α}
theorem Sl.app {N n bytes : Nat} {l2 : List α} {cs : List Value} (h : Sl R esz H v l) (ho : Ao N v) (hN : N ≤ H.length) (hw : ∀ id, N ≤ id → m.wr id = true) (hnr : m.nr = true → cs.all scal = true) (hpos : 0 < l2.length) (hcs : cs.length = l2.length * esz)
  (hr : ∀ (i : Nat) a, l2[i]? = some a → R a ((cs.drop (i * esz)).take esz)) (hb : (l.length + l2.length) * bytes ≤ Ev.room) (hb2 : l.length + l2.length ≤ Ev.room) :
  ∃ v' H', (∀ (s : St) (x y : X), s.H = H → Av s.ρ x = some v → F8 H esz (ex s.ρ y) = some (l2.length, cs) → Ce m s esz bytes x y = some (.val v', { s with H := H' })) ∧ Sl R esz H' v' (l ++ l2) ∧ Ao N v' ∧
   (∀ j, j < H.length → j ∉ Ae v → H'[j]? = H[j]?) ∧ H.length ≤ H'.length ∧ (∀ j ∈ Ae v', j ∈ Ae v ∨ H.length ≤ j) ∧ ∀ H0 : Hp, H0.length ≤ N → H0 <+: H → H0 <+: H' := by
 have hb3 : l.length + l2.length ≤ 9223372036854775807 := by unfold Ev.room at hb2; omega
 rcases ho with rfl | ⟨id, e, ln, cap, rfl, hid⟩
 ·have hl : l = [] := by
   rcases h with ⟨_, h⟩ | ⟨_, _, _, _, h, _⟩
   ·exact h
   ·cases h
  subst hl
  simp only [List.length_nil, Nat.zero_add] at hb hb2 hb3
  refine ⟨.slice (some ⟨H.length, 0, some esz⟩) l2.length (l2.length * esz), H ++ [cs], fun s x y hH hx hy => ?_, .inr ⟨H.length, 0, l2.length * esz, cs, by simp, by simp, by omega, by simp, by simpa using hb3, fun i a hi => ?_⟩,
   .inr ⟨_, _, _, _, rfl, hN⟩, fun j hj _ => by rw [List.getElem?_append_left hj], by simp, fun j hj => ?_, fun H0 _ hp => bB hp⟩
  ·unfold Ce
   rw [hx, hH, hy]
   simp only
   rw [if_neg (by omega), if_pos ⟨hb, hb2⟩]
  ·rw [Nat.zero_add]
   exact hr i a (by simpa using hi)
  ·simp [Ae] at hj
   exact .inr (by omega)
 ·rcases h with ⟨h, _⟩ | ⟨id', off, cap', o, h, hg, hoc, hlc, hroom, hrr⟩
  ·cases h
  cases h
  have hidl := (Em hg).1
  have hwid := hw id hid
  have hold : ∀ (q : List Value), (∀ k, k < l.length * esz → q[k]? = o[k]?) → ∀ (i : Nat) a, l[i]? = some a → R a ((q.drop (0 + i * esz)).take esz) := fun q hq i a hi => by
   have hil := (Em hi).1
   have hm : (i + 1) * esz ≤ l.length * esz := Nat.mul_le_mul_right _ hil
   rw [Nat.succ_mul] at hm
   have : (q.drop (0 + i * esz)).take esz = (o.drop (0 + i * esz)).take esz := by
    refine List.ext_getElem? fun k => ?_
    rw [A3, A3]
    by_cases hk : k < esz
    ·rw [if_pos hk, if_pos hk, hq _ (by omega)]
    ·rw [if_neg hk, if_neg hk]
   rw [this]
   exact hrr i a hi
  have hnew : ∀ (q : List Value), (∀ k, k < cs.length → q[l.length * esz + k]? = cs[k]?) → ∀ (i : Nat) a, l2[i]? = some a → R a ((q.drop (0 + (l.length + i) * esz)).take esz) := fun q hq i a hi => by
   have hil := (Em hi).1
   have hm : (i + 1) * esz ≤ l2.length * esz := Nat.mul_le_mul_right _ hil
   rw [Nat.succ_mul] at hm
   have : (q.drop (0 + (l.length + i) * esz)).take esz = (cs.drop (i * esz)).take esz := by
    refine List.ext_getElem? fun k => ?_
    rw [A3, A3]
    by_cases hk : k < esz
    ·rw [if_pos hk, if_pos hk, Nat.zero_add, Nat.add_mul, Nat.add_assoc, hq _ (by omega)]
    ·rw [if_neg hk, if_neg hk]
   rw [this]
   exact hr i a hi
  have both : ∀ (q : List Value), (∀ k, k < l.length * esz → q[k]? = o[k]?) → (∀ k, k < cs.length → q[l.length * esz + k]? = cs[k]?) → ∀ (i : Nat) a, (l ++ l2)[i]? = some a → R a ((q.drop (0 + i * esz)).take esz) := fun q h1 h2 i a hi => by
   by_cases hil : i < l.length
   ·rw [List.getElem?_append_left hil] at hi
    exact hold q h1 i a hi
   ·rw [List.getElem?_append_right (by omega)] at hi
    have := hnew q h2 _ a hi
    rw [show l.length + (i - l.length) = i by omega] at this
    exact this
  by_cases hfit : (l.length + l2.length) * esz ≤ cap
  ·have hfit' : l.length * esz + cs.length ≤ cap := by rw [hcs, ← Nat.add_mul]; exact hfit
   refine ⟨.slice (some ⟨id, 0, some esz⟩) (l.length + l2.length) cap, H.set id (spl o (0 + l.length * esz) cs), fun s x y hH hx hy => ?_, .inr ⟨id, 0, cap, _, by rw [List.length_append], by rw [List.getElem?_set_self hidl], by rw [Cq]; exact hoc, by rw [List.length_append]; exact hfit, by rw [List.length_append]; exact hb3,
    both _ (fun k hk => ?_) (fun k hk => ?_)⟩, .inr ⟨_, _, _, _, rfl, hid⟩, fun j hj hne => ?_, by simp, fun j hj => .inl hj, fun H0 h0 hp => K9 hp (by omega)⟩
   ·unfold Ce
    rw [hx, hH, hy]
    simp only
    rw [if_neg (by omega), hg]
    simp only
    rw [if_pos ⟨trivial, hoc, hwid, hnr⟩, if_pos hfit]
   ·rw [Ec, if_neg (by omega)]
   ·rw [Ec, if_pos (by omega), if_pos (by omega)]
    congr 1
    omega
   ·rw [List.getElem?_set_ne]
    simp [Ae] at hne
    omega
  ·have htl : (o.take (l.length * esz)).length = l.length * esz := by rw [List.length_take]; omega
   refine ⟨.slice (some ⟨id, 0, some esz⟩) (l.length + l2.length) ((l.length + l2.length) * esz), H.set id (o.take (l.length * esz) ++ cs), fun s x y hH hx hy => ?_, .inr ⟨id, 0, _, _, by rw [List.length_append], by rw [List.getElem?_set_self hidl], by rw [List.length_append, htl, hcs, ← Nat.add_mul, Nat.zero_add], by rw [List.length_append]; exact Nat.le_refl _, by rw [List.length_append]; exact hb3,
    both _ (fun k hk => ?_) (fun k hk => ?_)⟩, .inr ⟨_, _, _, _, rfl, hid⟩, fun j hj hne => ?_, by simp, fun j hj => .inl hj, fun H0 h0 hp => K9 hp (by omega)⟩
   ·unfold Ce
    rw [hx, hH, hy]
    simp only
    rw [if_neg (by omega), hg]
    simp only
    rw [if_pos ⟨trivial, hoc, hwid, hnr⟩, if_neg hfit, if_pos ⟨trivial, by omega, hb, hb2⟩]
   ·rw [List.getElem?_append_left (by omega), List.getElem?_take, if_pos hk]
   ·rw [List.getElem?_append_right (by omega), htl, show l.length * esz + k - l.length * esz = k by omega]
   ·rw [List.getElem?_set_ne]
    simp [Ae] at hne
    omega
theorem Sl.src (h : Sl R esz H v l) : ∃ cs, F8 H esz (.val v) = some (l.length, cs) ∧ cs.length = l.length * esz ∧ ∀ (i : Nat) a, l[i]? = some a → R a ((cs.drop (i * esz)).take esz) := by
 rcases h with ⟨rfl, rfl⟩ | ⟨id, off, cap, o, rfl, hg, hoc, hlc, hroom, hrr⟩
 ·exact ⟨[], rfl, by simp, fun i a hi => by simp at hi⟩
 ·refine ⟨(o.drop off).take (l.length * esz), ?_, by rw [List.length_take, List.length_drop]; omega, fun i a hi => ?_⟩
  ·simp only [F8, Nc, hg]
   rw [if_pos hoc]
   simp only
   rw [if_pos ⟨trivial, by omega⟩]
  ·have hil := (Em hi).1
   have hm : (i + 1) * esz ≤ l.length * esz := Nat.mul_le_mul_right _ hil
   rw [Nat.succ_mul] at hm
   have : (((o.drop off).take (l.length * esz)).drop (i * esz)).take esz = (o.drop (off + i * esz)).take esz := by
    refine List.ext_getElem? fun k => ?_
    rw [A3 ((o.drop off).take (l.length * esz)) (i * esz) esz k, A3 o (off + i * esz) esz k]
    by_cases hk : k < esz
    ·rw [if_pos hk, if_pos hk, A3, if_pos (by omega), Nat.add_assoc]
    ·rw [if_neg hk, if_neg hk]
   rw [this]
   exact hrr i a hi
theorem Sl.copy {bytes : Nat} (h : Sl R esz H v l) (hb : l.length * bytes ≤ Ev.room) (hb2 : l.length ≤ Ev.room) :
  ∃ v' H', (∀ (s : St) (x y : X), s.H = H → Av s.ρ x = some (.slice none 0 0) → ex s.ρ y = .val v → Ce m s esz bytes x y = some (.val v', { s with H := H' })) ∧ H <+: H' ∧ Sl R esz H' v' l ∧ Ao H.length v' := by
 obtain ⟨cs, h1, h2, h3⟩ := h.src
 by_cases h0 : l.length = 0
 ·have hl : l = [] := List.eq_nil_of_length_eq_zero h0
  subst hl
  refine ⟨.slice none 0 0, H, fun s x y hH hx hy => ?_, List.prefix_refl _, .inl ⟨rfl, rfl⟩, .inl rfl⟩
  subst hH
  unfold Ce
  rw [hx, hy, h1]
  rfl
 ·refine ⟨.slice (some ⟨H.length, 0, some esz⟩) l.length (l.length * esz), H ++ [cs], fun s x y hH hx hy => ?_, Eg, .inr ⟨H.length, 0, l.length * esz, cs, rfl, by simp, by omega, Nat.le_refl _, by unfold Ev.room at hb2; omega, fun i a hi => ?_⟩, .inr ⟨_, _, _, _, rfl, Nat.le_refl _⟩⟩
  ·unfold Ce
   rw [hx, hH, hy, h1]
   simp only
   rw [if_neg h0, if_pos ⟨hb, hb2⟩]
  ·rw [Nat.zero_add]
   exact h3 i a hi
end
def rI (l : List Int) : List Int := l.mergeSort fun x y => decide (x ≤ y)
section
open Go RowKit
theorem Ci.prim {E : Hb} {m : Md} {f : Nat} {vs : List Value} {H H' : Hp} {r : Value} {p : Md → List Value → Hp → Option (Value × Hp)} {Q : Value → Hp → Prop} (hp : E.prim f = some p) (h : p m vs H = some (r, H')) (hq : Q r H') : Ci E m f vs H Q :=
 ⟨1, r, H', by rw [K4, hp]; exact h, hq⟩
end
def Oa : List Int → List Int
 | [] => []
 | [a] => [a]
 | a :: b :: t => if a = b then Oa (b :: t) else a :: Oa (b :: t)
theorem Oz : ∀ (l : List Int) (x : Int), x ∈ Oa l ↔ x ∈ l
 | [], x => by simp [Oa]
 | [a], x => by simp [Oa]
 | a :: b :: t, x => by
  have := Oz (b :: t) x
  rw [Oa]
  split
  ·rename_i h
   rw [this, h]
   simp
  ·rw [List.mem_cons, this, List.mem_cons (a := x) (b := a)]
def Po (l : List Int) : Prop := l.Pairwise (· < ·)
theorem Sq : ∀ (l : List Int), l.Pairwise (· ≤ ·) → Po (Oa l)
 | [], _ => by simp [Oa, Po]
 | [a], _ => by simp [Oa, Po]
 | a :: b :: t, h => by
  have h' := List.pairwise_cons.1 h
  have ih := Sq (b :: t) h'.2
  rw [Oa]
  split
  ·exact ih
  ·rename_i hab
   refine List.pairwise_cons.2 ⟨fun x hx => ?_, ih⟩
   rw [Oz] at hx
   have h1 := h'.1 b (by simp)
   rcases List.mem_cons.1 hx with rfl | hx
   ·omega
   ·have := (List.pairwise_cons.1 h'.2).1 x hx
    omega
theorem Po.eq : ∀ {l k : List Int}, Po l → Po k → (∀ x, x ∈ l ↔ x ∈ k) → l = k
 | [], [], _, _, _ => rfl
 | [], b :: k, _, _, h => by have := (h b).2 (by simp); simp at this
 | a :: l, [], _, _, h => by have := (h a).1 (by simp); simp at this
 | a :: l, b :: k, hl, hk, h => by
  have hl := List.pairwise_cons.1 hl
  have hk := List.pairwise_cons.1 hk
  have hab : a = b := by
   have h1 := (h a).1 (by simp)
   have h2 := (h b).2 (by simp)
   rcases List.mem_cons.1 h1 with e | h1
   ·exact e
   ·rcases List.mem_cons.1 h2 with e | h2
    ·exact e.symm
    ·have := hk.1 a h1
     have := hl.1 b h2
     omega
  subst hab
  rw [Po.eq hl.2 hk.2 fun x => ?_]
  have hx := h x
  constructor
  ·intro hm
   rcases List.mem_cons.1 (hx.1 (List.mem_cons_of_mem _ hm)) with e | h2
   ·have := hl.1 x hm
    omega
   ·exact h2
  ·intro hm
   rcases List.mem_cons.1 (hx.2 (List.mem_cons_of_mem _ hm)) with e | h2
   ·have := hk.1 x hm
    omega
   ·exact h2
theorem Ve (l : List Int) : (rI l).Pairwise (· ≤ ·) := by
 have := List.pairwise_mergeSort (le := fun (x y : Int) => decide (x ≤ y)) (fun a b c h1 h2 => by simp at *; omega) (fun a b => by simp; omega) l
 exact this.imp fun h => by simpa using h
theorem cM (l : List Int) (x : Int) : x ∈ rI l ↔ x ∈ l := by simp [rI]
def W5 (l : List Int) : List Int := Oa (rI l)
theorem We (l : List Int) : Po (W5 l) := Sq _ (Ve l)
theorem Lg (l : List Int) (x : Int) : x ∈ W5 l ↔ x ∈ l := by rw [W5, Oz, cM]
section
variable {m : Md} {α : Type} {R : α → List Value → Prop} {esz : Nat} {H : Hp} {v : Value} {l : List α}
theorem Sl.drop (h : Sl R esz H v l) {i : Nat} (hi : i ≤ l.length) : ∃ v', (∀ (s : St) (x y : X), Av s.ρ x = some v → Av s.ρ y = some (.int .i64 i) → Ih s esz x (some y) none = some (.val v', s)) ∧
  (∀ j ∈ Ae v', j ∈ Ae v) ∧ ∀ (H' : Hp) (l' : List α), l'.length = l.length → Sl R esz H' v l' → Sl R esz H' v' (l'.drop i) := by
 rcases h with ⟨rfl, rfl⟩ | ⟨id, off, cap, o, rfl, ho, hc, hn, hrm, hr⟩
 ·simp at hi
  subst hi
  refine ⟨.slice none 0 0, fun s x y hx hy => ?_, fun j hj => hj, fun H' l' hl h => by rw [List.eq_nil_of_length_eq_zero hl] at h ⊢; exact h⟩
  simp only [Ih, J7, hx, hy]
  rfl
 ·have hm : i * esz ≤ l.length * esz := Nat.mul_le_mul_right _ hi
  refine ⟨.slice (some ⟨id, off + i * esz, some esz⟩) (l.length - i) (cap - i * esz), fun s x y hx hy => ?_, fun j hj => hj, fun H' l' hl h => ?_⟩
  ·simp only [Ih, J7, hx, hy]
   rw [if_pos ⟨trivial, by omega, by omega, .inl (by omega), by simp; omega⟩]
   simp [St.val]
  ·rcases h with ⟨h, _⟩ | ⟨id', off', cap', o', h, ho', hc', hn', hrm', hr'⟩
   ·cases h
   ·rw [← hl] at h
    cases h
    have hm' : i * esz ≤ l'.length * esz := Nat.mul_le_mul_right _ (by omega)
    refine .inr ⟨id, off + i * esz, cap - i * esz, o', by rw [List.length_drop, hl], ho', by omega, ?_, by rw [List.length_drop]; omega, fun j a hj => ?_⟩
    ·rw [List.length_drop, Nat.sub_mul]; omega
    ·rw [List.getElem?_drop] at hj
     have := hr' _ a hj
     rw [show off + i * esz + j * esz = off + (i + j) * esz by rw [Nat.add_mul]; omega]
     exact this
theorem Sl.cut (h : Sl R esz H v l) {i : Nat} (hi : i ≤ l.length) {zero : List Value} (hz : zero.length = esz) (hzs : zero.all scal = true) (hw : ∀ id ∈ Ae v, m.wr id = true) : ∃ v3 v2 H', (∀ (s : St) (x y : X), Av s.ρ x = some v → Av s.ρ y = some (.int .i64 i) → Ih s esz x (some y) none = some (.val v3, s)) ∧
  (∀ (s : St) (x : X), s.H = H → Av s.ρ x = some v3 → Pi m s esz zero x = some (.val (.tuple #[]), { s with H := H' })) ∧
  (∀ (s : St) (x y : X), Av s.ρ x = some v → Av s.ρ y = some (.int .i64 i) → Ih s esz x none (some y) = some (.val v2, s)) ∧ Sl R esz H' v2 (l.take i) ∧ (∀ N, Ao N v → Ao N v2) ∧ (∀ j, j ∉ Ae v → H'[j]? = H[j]?) ∧ H'.length = H.length ∧ ∀ j ∈ Ae v2, j ∈ Ae v := by
 rcases h with ⟨rfl, rfl⟩ | ⟨id, off, cap, o, rfl, ho, hc, hn, hrm, hr⟩
 ·simp at hi
  subst hi
  refine ⟨.slice none 0 0, .slice none 0 0, H, fun s x y hx hy => ?_, fun s x hH hx => ?_, fun s x y hx hy => ?_, .inl ⟨rfl, by simp⟩, fun N h => h, fun _ _ => rfl, rfl, fun j hj => hj⟩
  ·simp only [Ih, J7, hx, hy]
   rfl
  ·subst hH
   simp only [Pi, hx]
   rfl
  ·simp only [Ih, J7, hx, hy]
   rfl
 ·have hm : i * esz ≤ l.length * esz := Nat.mul_le_mul_right _ hi
  have hidl := (Em ho).1
  refine ⟨.slice (some ⟨id, off + i * esz, some esz⟩) (l.length - i) (cap - i * esz), .slice (some ⟨id, off, some esz⟩) i cap, H.set id (spl o (off + i * esz) (Bn (l.length - i) zero)), fun s x y hx hy => ?_, fun s x hH hx => ?_, fun s x y hx hy => ?_, .inr ⟨id, off, cap, _, by rw [List.length_take, Nat.min_eq_left hi], List.getElem?_set_self hidl, by rw [Cq]; exact hc, by rw [List.length_take, Nat.min_eq_left hi]; omega, by rw [List.length_take]; omega, fun j a hj => ?_⟩, fun N h => ?_, fun j hj => ?_, by simp, fun j hj => hj⟩
  ·simp only [Ih, J7, hx, hy]
   rw [if_pos ⟨trivial, by omega, by omega, .inl (by omega), by simp; omega⟩]
   simp [St.val]
  ·subst hH
   simp only [Pi, hx, ho]
   rw [if_pos ⟨trivial, by omega, hw id (by simp [Ae]), hzs, by rw [Nat.sub_mul]; omega⟩]
  ·simp only [Ih, J7, hx, hy]
   rw [if_pos ⟨trivial, by omega, by omega, .inl (by omega), by simp⟩]
   simp [St.val]
  ·rw [List.getElem?_take] at hj
   split at hj
   ·rename_i hji
    have hm2 : (j + 1) * esz ≤ i * esz := Nat.mul_le_mul_right _ hji
    rw [Nat.succ_mul] at hm2
    rw [Pw (.inl (by omega))]
    exact hr j a hj
   ·cases hj
  ·rcases h with h | ⟨id', e, ln, cp, h, hN⟩
   ·cases h
   ·cases h
    exact .inr ⟨_, _, _, _, rfl, hN⟩
  ·rw [List.getElem?_set_ne]
   simp [Ae] at hj
   omega
end
section
variable {E : Hb} {m : Md} {s : St} {Q : Ex → St → Prop} {ts : List Tk}
theorem Nu {c : CC} (P : St → Prop) (h : go E m [.c c] s fun e s' => e = .normal ∧ P s') (hq : ∀ s', P s' → go E m ts s' Q) : go E m (.c c :: ts) s Q := by
 rw [go] at *
 refine F3 h fun e s' h => ?_
 cases e with
 | normal => simp only [Gb, go] at *; exact hq _ h.2
 | exit j => simp only [Gb] at h; exact absurd h.1 (by simp)
 | ret => simp only [Gb] at h; exact absurd h.1 (by simp)
theorem Bq {c : Bool} {a b : CC} {s1 s2 : St} (P : St → Prop) (h1 : c = true → go E m [.c a] s1 fun e s' => e = .normal ∧ P s') (h2 : c = false → go E m [.c b] s2 fun e s' => e = .normal ∧ P s') (hq : ∀ s', P s' → go E m ts s' Q) : Bf E m c (.c a :: ts) s1 (.c b :: ts) s2 Q :=
 ⟨fun h => Nu P (h1 h) hq, fun h => Nu P (h2 h) hq⟩
theorem Ap {f : Nat} {vs : List Value} {H : Hp} {P : Value → Hp → Prop} {draw : Bool} {d : Option Nat} (hpw : E.pw f = false) (h : ∀ m' : Md, Wr m' H → (∀ id ∈ vs.flatMap Ae, m.wr id = true → m'.wr id = true) → m'.nr = m.nr → Ci E m' f vs H P) (hH : s.H = H) (hw : Wr m H)
  (hq : ∀ r H', P r H' → go E m ts { s with H := H', ρ := Ah s.ρ d (.val r) } Q) : Cj E m draw f (some vs) s d ts Q := by
 subst hH
 unfold Cj Ss
 refine Ci.mono (h _ (fun id hid => ?_) (fun id hid hm => ?_) ?_) hq
 ·cases draw with
  | false => exact hw id hid
  | true => simp only [if_true, Md.drawn]; simp [hid]
 ·cases draw with
  | false => exact hm
  | true =>
   simp only [if_true, Md.drawn, hpw]
   have : (vs.flatMap Ae).contains id = true := List.contains_iff_mem.2 hid
   rw [hm, this]
   simp
 ·cases draw <;> rfl
end
end Go.Proofs.YtglboiahgpfjdaaGreat.Ev
