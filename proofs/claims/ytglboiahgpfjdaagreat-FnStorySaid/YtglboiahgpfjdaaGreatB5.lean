/- Texts of the proof, laid one behind the other. -/
import Derived.Test.YtglboiahgpfjdaaGreatB3
import Derived.Test.YtglboiahgpfjdaaGreatB4
import Derived.Test.YtglboiahgpfjdaaGreatB2
namespace Go.Proofs.YtglboiahgpfjdaaGreat.Ev
set_option linter.all false
set_option maxRecDepth 4000
open Go
section
theorem Sl.oneS {m : Md} {N : Nat} {H : Hp} {v : Value} {l : List ByteArray} (a : ByteArray) (h : Dz H v l) (ho : Ao N v) (hN : N ≤ H.length) (hw : ∀ id, N ≤ id → m.wr id = true) (hb : l.length < 1048576) :
  ∃ v' H', (∀ (s : St) (x y : X), s.H = H → Av s.ρ x = some v → ex s.ρ y = .vs 1 [.string a] → Ce m s 1 16 x y = some (.val v', { s with H := H' })) ∧ Dz H' v' (l ++ [a]) ∧ Ao N v' ∧
   (∀ j, j < H.length → j ∉ Ae v → H'[j]? = H[j]?) ∧ H.length ≤ H'.length ∧ (∀ j ∈ Ae v', j ∈ Ae v ∨ H.length ≤ j) ∧ ∀ H0 : Hp, H0.length ≤ N → H0 <+: H → H0 <+: H' := by
 obtain ⟨v', H', h1, h2⟩ := h.app (m := m) (n := 1) (bytes := 16) (l2 := [a]) (cs := [.string a]) ho hN hw (fun _ => rfl) (by simp) rfl (fun i b hi => by
  cases i with
  | zero => simp at hi; subst hi; rfl
  | succ i => simp at hi) (by unfold Ev.room; simp; omega) (by unfold Ev.room; simp; omega)
 exact ⟨v', H', fun s x y hH hx hy => h1 s x y hH hx (by rw [hy]; rfl), h2⟩
theorem Jb {H : Hp} : Dz (H ++ [[]]) (.slice (some ⟨H.length, 0, some 1⟩) 0 (0 * 1)) [] := .inr ⟨H.length, 0, 0, [], rfl, by simp, by simp, by simp, by simp, fun i a hi => by simp at hi⟩
noncomputable def Fi (s : ByteArray) (e0 j : Nat) : Nat := (Je (Fa s 8) j e0).getD 0
noncomputable def O1 (s : ByteArray) (e0 n : Nat) : List ByteArray := (List.range n).map fun j => s.extract (Fi s e0 j) (Fi s e0 (j + 1))
theorem N4 (s : ByteArray) (e0 n : Nat) : (O1 s e0 n).length = n := by simp [O1]
theorem W8 (s : ByteArray) (e0 n : Nat) : O1 s e0 (n + 1) = O1 s e0 n ++ [s.extract (Fi s e0 n) (Fi s e0 (n + 1))] := by simp [O1, List.range_succ]
open Classical in
noncomputable def A5 (s : ByteArray) : Option (List ByteArray) := if Ej s = true ∧ s[0]? = some 108 then some (O1 s (1 + (Bm (rest s 1)).2) (Bm (rest s 1)).1) else none
open Classical in
noncomputable def Ck (s : ByteArray) (k : Int) : Option ByteArray := if Ej s = true ∧ s[0]? = some 115 ∧ ((Bm (rest s 1)).1 : Int) = k then some (rest s (1 + (Bm (rest s 1)).2)) else none
open Classical in
noncomputable def Gf (s : ByteArray) : Option ByteArray := if Ej s = true ∧ s[0]? = some 97 then some (rest s (1 + (Bm (rest s 1)).2)) else none
noncomputable def Xo (s : ByteArray) : Option Int := match Gf s with
 | some d => if (Bm d).2 = 0 ∨ (Bm d).2 ≠ d.size then none else some ((Bm d).1 : Int)
 | none => none
theorem It {s : ByteArray} (h : Ej s = true) : ¬ (Bm (rest s 1)).2 = 0 ∧ ∃ c, s[0]? = some c := by
 have h8 := (Ei.1 h).2.2
 rw [show (8 : Nat) = 7 + 1 from rfl, Fa, Ca] at h8
 cases hc : s[0]? with
 | none => rw [hc] at h8; cases h8
 | some c =>
  rw [hc] at h8
  simp only at h8
  refine ⟨fun e => ?_, c, rfl⟩
  rw [show (0 : Nat) + 1 = 1 from rfl, if_pos e] at h8
  cases h8
theorem R8 {s : ByteArray} (h : Ej s = true) (hc : s[0]? = some 108) : (Bm (rest s 1)).1 ≤ 12 ∧ Je (Fa s 7) (Bm (rest s 1)).1 (1 + (Bm (rest s 1)).2) = some s.size := by
 have h8 := (Ei.1 h).2.2
 have hk := (It h).1
 rw [show (8 : Nat) = 7 + 1 from rfl, Fa, Ca, hc] at h8
 simp only [Nat.zero_add] at h8
 rw [if_neg hk, if_neg (by decide), if_neg (by decide), if_pos trivial] at h8
 split at h8
 ·rename_i h2; exact ⟨h2, h8⟩
 ·cases h8
theorem Ll {s : ByteArray} (h : Ej s = true) (hc : s[0]? = some 108) : ∀ j, j ≤ (Bm (rest s 1)).1 → ∃ e, Je (Fa s 8) j (1 + (Bm (rest s 1)).2) = some e ∧ e ≤ s.size := by
 intro j hj
 obtain ⟨h12, h7⟩ := R8 h hc
 cases hit : Je (Fa s 7) j (1 + (Bm (rest s 1)).2) with
 | none => rw [N3 hj hit] at h7; cases h7
 | some e =>
  have := Mq (g := Fa s 8) (fun a e h => Qx h) hit
  have hr := Kz (rest s 1)
  rw [Bh] at hr
  have h1 := (Ei.1 h).1
  exact ⟨e, this, (Kt (s := s) (f := Fa s 8) (fun a e h => Ef h) (by omega) this).2⟩
theorem Ts {s : ByteArray} {e0 j e e' : Nat} (h : Je (Fa s 8) j e0 = some e) (h2 : Je (Fa s 8) (j + 1) e0 = some e') : Fa s 8 e = some e' := by
 rw [G9, h] at h2
 exact h2
theorem Tq {x t y : ByteArray} : (x ++ t ++ y).extract x.size (x.size + t.size) = t := by
 refine ByteArray.ext ?_
 rw [ByteArray.data_extract, ByteArray.data_append, ByteArray.data_append]
 have e1 : x.size = x.data.size := rfl
 have e2 : t.size = t.data.size := rfl
 rw [e1, e2, Array.append_assoc, Array.extract_append, Array.extract_append]
 have z1 : x.data.extract x.data.size (x.data.size + t.data.size) = #[] := Array.extract_empty_of_size_le_start (Nat.le_refl _)
 have z2 : x.data.size - x.data.size = 0 := Nat.sub_self _
 have z3 : x.data.size + t.data.size - x.data.size = t.data.size := by omega
 rw [z1, z2, z3]
 simp
theorem aJ (c : UInt8) (y : ByteArray) : ((⟨#[c]⟩ : ByteArray) ++ y)[0]? = some c := by
 rw [I3 (by show 0 < 1; omega)]
 rfl
theorem bZ {s : St} {x y z : X} {b : ByteArray} {i k : Nat} (hi : i ≤ k) (hk : k ≤ b.size) (hx : Av s.ρ x = some (.string b)) (hy : Av s.ρ y = some (.int .i64 i)) (hz : Av s.ρ z = some (.int .i64 k)) : C2 s x (some y) (some z) = some (.val (.string (b.extract i k)), s) := by
 unfold C2
 rw [hx]
 simp only [J7, hy, hz]
 rw [if_pos ⟨by omega, by omega, by omega⟩]
 rfl
open Classical in
noncomputable def Fc (s : ByteArray) (c : UInt8) : Bool := Ej s && decide (s[0]? = some c)
theorem C1 {s : ByteArray} {c : UInt8} : Fc s c = true ↔ Ej s = true ∧ s[0]? = some c := by
 unfold Fc; simp
def eJ : Option ByteArray → Value
 | some t => .tuple #[.string t, .bool true]
 | none => .tuple #[.string ⟨#[]⟩, .bool false]
def qZ : Option Int → Value
 | some n => .tuple #[.int .i64 n, .bool true]
 | none => .tuple #[.int .i64 0, .bool false]
theorem Sp (o : Option ByteArray) : A8 (eJ o) = true := by cases o <;> rfl
theorem Y6 (o : Option Int) : A8 (qZ o) = true := by cases o <;> rfl
theorem S3 {s : ByteArray} {k : Int} (h : Fc s 115 = false) : Ck s k = none := by
 unfold Ck
 rw [if_neg]
 rintro ⟨h1, h2, _⟩
 rw [C1.2 ⟨h1, h2⟩] at h
 cases h
theorem Yy {s : ByteArray} {k : Int} (h : ¬ ((Bm (rest s 1)).1 : Int) = k) : Ck s k = none := by
 unfold Ck
 rw [if_neg fun h2 => h h2.2.2]
theorem Wz {s : ByteArray} {k : Int} (h : Fc s 115 = true) (h2 : ((Bm (rest s 1)).1 : Int) = k) : Ck s k = some (rest s (1 + (Bm (rest s 1)).2)) := by
 unfold Ck
 rw [if_pos ⟨(C1.1 h).1, (C1.1 h).2, h2⟩]
theorem Sz {s : ByteArray} (h : Fc s 97 = false) : Gf s = none := by
 unfold Gf
 rw [if_neg]
 rintro ⟨h1, h2⟩
 rw [C1.2 ⟨h1, h2⟩] at h
 cases h
theorem Xg {s : ByteArray} (h : Fc s 97 = true) : Gf s = some (rest s (1 + (Bm (rest s 1)).2)) := by
 unfold Gf
 rw [if_pos (C1.1 h)]
theorem Fk {s : ByteArray} (h : Fc s 108 = false) : A5 s = none := by
 unfold A5
 rw [if_neg]
 rintro ⟨h1, h2⟩
 rw [C1.2 ⟨h1, h2⟩] at h
 cases h
theorem Fl {s : ByteArray} (h : Fc s 108 = true) : A5 s = some (O1 s (1 + (Bm (rest s 1)).2) (Bm (rest s 1)).1) := by
 unfold A5
 rw [if_pos (C1.1 h)]
theorem qY (q : Nat) (hq : q < 256) (c : UInt8) : decide (((c.toNat : Nat) : Int) = (q : Int)) = decide (c = UInt8.ofNat q) := by
 rw [Bool.eq_iff_iff]; simp only [decide_eq_true_eq]; exact aW hq
theorem eP (c : UInt8) : decide (((c.toNat : Nat) : Int) = 97) = decide (c = 97) := qY 97 (by decide) c
theorem jR (c : UInt8) : decide (((c.toNat : Nat) : Int) = 108) = decide (c = 108) := qY 108 (by decide) c
theorem kB (c : UInt8) : decide (((c.toNat : Nat) : Int) = 115) = decide (c = 115) := qY 115 (by decide) c
theorem Jq {s : ByteArray} (h : Ej s = true) : 1 ≤ s.size ∧ s.size ≤ 900 ∧ 1 + (Bm (rest s 1)).2 ≤ s.size ∧ (Bm (rest s 1)).1 ≤ 562949953421311 := by
 have h1 := Ei.1 h
 have hr := Kz (rest s 1)
 rw [Bh] at hr
 have := h1.1
 have := h1.2.1
 omega
theorem Yu {H : Hp} {s : ByteArray} {k : Int} (hs : s.size ≤ 4611686018427387904) : Aw EE 215 [.string s, .int .i64 k] H (eJ (Ck s k)) := by
 refine Ag rfl rfl zV (by simp [dL]) (Sp _) fun m hw => ?_
 have a57 := Ax (X6 (H := H) hs)
 cases ht : Ej s with
 | false =>
  rw [S3 (by unfold Fc; rw [ht]; rfl)]
  simp only [go_sem, Nat.reduceEqDiff, dL, a57, hw, ht, eJ]
 | true =>
  obtain ⟨c, hc⟩ := (It ht).2
  have hz := Jq ht
  have hix : ∀ {t : St} {x : X}, Av t.ρ x = some (.string s) → Ky t x (.c (.int .i64 0)) = some (.val (.int .u8 c.toNat), t) := fun {t x} hx => H9 (i := 0) hc hx rfl
  have hrs := Bh s 1
  have a140 := Ax (Sv (H := H) (s := rest s 1) (by omega))
  have hsl1 : ∀ {t : St} {x : X}, Av t.ρ x = some (.string s) → C2 t x (some (.c (.int .i64 1))) none = some (.val (.string (rest s 1)), t) := fun {t x} hx => D9 (k := 1) (by omega) hx rfl
  have hsl2 : ∀ {t : St} {x y : X}, Av t.ρ x = some (.string s) → Av t.ρ y = some (.int .i64 (1 + ((Bm (rest s 1)).2 : Int))) → C2 t x (some y) none = some (.val (.string (rest s (1 + (Bm (rest s 1)).2))), t) := fun {t x y} hx hy => D9 (k := 1 + (Bm (rest s 1)).2) hz.2.2.1 hx (by rw [hy]; rfl)
  have w1 : IntKind.i64.wrap (1 + ((Bm (rest s 1)).2 : Int)) = 1 + ((Bm (rest s 1)).2 : Int) := Ab _ (by omega) (by omega)
  simp only [go_sem, Nat.reduceEqDiff, reduceCtorEq, dL, a57, hw, ht, hix, kB]
  refine Bf.intro (fun q => ?_) (fun q => ?_) <;> simp only [go_sem, Nat.reduceEqDiff, reduceCtorEq, q, hsl1, a140, hw, List.getElem?_toArray]
  ·have q : c = 115 := by simpa using q
   have hB : Fc s 115 = true := C1.2 ⟨ht, by rw [hc, q]⟩
   refine Bf.intro (fun q2 => ?_) (fun q2 => ?_) <;> simp only [go_sem, Nat.reduceEqDiff, q2, w1, hsl2]
   ·have q2 : ((Bm (rest s 1)).1 : Int) = k := by simpa using q2
    rw [Wz hB q2]
    rfl
   ·have q2 : ¬ ((Bm (rest s 1)).1 : Int) = k := by simpa using q2
    rw [Yy q2]
    rfl
  ·have q : ¬ c = 115 := by simpa using q
   rw [S3 (by unfold Fc; rw [hc]; simp [q])]
   rfl
theorem zG {H : Hp} {s : ByteArray} (hs : s.size ≤ 4611686018427387904) : Aw EE 226 [.string s] H (eJ (Gf s)) := by
 refine Ag rfl rfl wC (by simp [eA]) (Sp _) fun m hw => ?_
 have a57 := Ax (X6 (H := H) hs)
 cases ht : Ej s with
 | false =>
  rw [Sz (by unfold Fc; rw [ht]; rfl)]
  simp only [go_sem, Nat.reduceEqDiff, eA, a57, hw, ht, eJ]
 | true =>
  obtain ⟨c, hc⟩ := (It ht).2
  have hz := Jq ht
  have hix : ∀ {t : St} {x : X}, Av t.ρ x = some (.string s) → Ky t x (.c (.int .i64 0)) = some (.val (.int .u8 c.toNat), t) := fun {t x} hx => H9 (i := 0) hc hx rfl
  have hrs := Bh s 1
  have a140 := Ax (Sv (H := H) (s := rest s 1) (by omega))
  have hsl1 : ∀ {t : St} {x : X}, Av t.ρ x = some (.string s) → C2 t x (some (.c (.int .i64 1))) none = some (.val (.string (rest s 1)), t) := fun {t x} hx => D9 (k := 1) (by omega) hx rfl
  have hsl2 : ∀ {t : St} {x y : X}, Av t.ρ x = some (.string s) → Av t.ρ y = some (.int .i64 (1 + ((Bm (rest s 1)).2 : Int))) → C2 t x (some y) none = some (.val (.string (rest s (1 + (Bm (rest s 1)).2))), t) := fun {t x y} hx hy => D9 (k := 1 + (Bm (rest s 1)).2) hz.2.2.1 hx (by rw [hy]; rfl)
  have w1 : IntKind.i64.wrap (1 + ((Bm (rest s 1)).2 : Int)) = 1 + ((Bm (rest s 1)).2 : Int) := Ab _ (by omega) (by omega)
  simp only [go_sem, Nat.reduceEqDiff, reduceCtorEq, eA, a57, hw, ht, hix, eP]
  refine Bf.intro (fun q => ?_) (fun q => ?_) <;> simp only [go_sem, Nat.reduceEqDiff, reduceCtorEq, q, hsl1, a140, hw, List.getElem?_toArray, w1, hsl2]
  ·have q : c = 97 := by simpa using q
   rw [Xg (C1.2 ⟨ht, by rw [hc, q]⟩)]
   rfl
  ·have q : ¬ c = 97 := by simpa using q
   rw [Sz (by unfold Fc; rw [hc]; simp [q])]
   rfl
theorem eF (s : ByteArray) : Xo s = if (Gf s).isSome = false ∨ (Bm ((Gf s).getD ⟨#[]⟩)).2 = 0 ∨ (Bm ((Gf s).getD ⟨#[]⟩)).2 ≠ ((Gf s).getD ⟨#[]⟩).size then none else some ((Bm ((Gf s).getD ⟨#[]⟩)).1 : Int) := by
 unfold Xo
 cases Gf s with
 | none => simp
 | some d => simp
theorem Uh {s : ByteArray} : ((Gf s).getD ⟨#[]⟩).size ≤ s.size := by
 unfold Gf
 split
 ·simp only [Option.getD_some]
  rw [Bh]
  omega
 ·exact Nat.zero_le _
theorem Oq (o : Option ByteArray) : eJ o = .tuple #[.string (o.getD ⟨#[]⟩), .bool o.isSome] := by cases o <;> rfl
theorem zI {H : Hp} {s : ByteArray} (hs : s.size ≤ 4611686018427387904) : Aw EE 216 [.string s] H (qZ (Xo s)) := by
 refine Ag rfl rfl uD (by simp [cY]) (Y6 _) fun m hw => ?_
 have a226 := Ax (zG (H := H) hs)
 rw [Oq] at a226
 rw [eF]
 have hdz := Uh (s := s)
 generalize (Gf s).getD ⟨#[]⟩ = d at a226 hdz ⊢
 generalize (Gf s).isSome = b at a226 ⊢
 have a140 := Ax (Sv (H := H) (s := d) (by omega))
 generalize Bm d = p at a140 ⊢
 obtain ⟨n, k⟩ := p
 simp only at a140 ⊢
 cases b with
 | false =>
  rw [if_pos (Or.inl rfl)]
  simp only [go_sem, Nat.reduceEqDiff, cY, a226, hw, a140, List.getElem?_toArray, qZ]
 | true =>
  simp only [go_sem, Nat.reduceEqDiff, reduceCtorEq, cY, a226, hw, a140, List.getElem?_toArray]
  refine Bf.intro (fun q => ?_) (fun q => ?_) <;> simp only [go_sem, Nat.reduceEqDiff, reduceCtorEq, q, Cn]
  ·have q : k = 0 := by have := As q; omega
   rw [if_pos (Or.inr (Or.inl q))]
   rfl
  ·have q : ¬ k = 0 := by have := Au q; omega
   refine Bf.intro (fun q2 => ?_) (fun q2 => ?_) <;> simp only [go_sem, Nat.reduceEqDiff, q2]
   ·have q2 : k = d.size := by have := As q2; omega
    rw [if_neg (fun h => h.elim (fun h => nomatch h) fun h => h.elim (fun h => q h) fun h => h q2)]
    rfl
   ·have q2 : ¬ k = d.size := by have := Au q2; omega
    rw [if_pos (Or.inr (Or.inr q2))]
    rfl
theorem Om {s : ByteArray} (h : Fc s 108 = true) {i : Nat} (hi : i < (Bm (rest s 1)).1) :
  Fa s 8 (Fi s (1 + (Bm (rest s 1)).2) i) = some (Fi s (1 + (Bm (rest s 1)).2) (i + 1)) ∧ Fi s (1 + (Bm (rest s 1)).2) i ≤ Fi s (1 + (Bm (rest s 1)).2) (i + 1) ∧ Fi s (1 + (Bm (rest s 1)).2) (i + 1) ≤ s.size := by
 obtain ⟨h1, h2⟩ := C1.1 h
 obtain ⟨e, he, hle⟩ := Ll h1 h2 i (by omega)
 obtain ⟨e', he', hle'⟩ := Ll h1 h2 (i + 1) (by omega)
 have hn := Ts he he'
 have e1 : Fi s (1 + (Bm (rest s 1)).2) i = e := by unfold Fi; rw [he]; rfl
 have e2 : Fi s (1 + (Bm (rest s 1)).2) (i + 1) = e' := by unfold Fi; rw [he']; rfl
 rw [e1, e2]
 have := (Ef hn).1
 exact ⟨hn, by omega, hle'⟩
theorem Sw (s : ByteArray) (e0 : Nat) : Fi s e0 0 = e0 := rfl
theorem Ob {s : ByteArray} (h : Fc s 108 = true) : (Bm (rest s 1)).1 ≤ 12 := (R8 (C1.1 h).1 (C1.1 h).2).1
def Yk (H : Hp) (s : ByteArray) (r : Value) (H' : Hp) : Prop := ∃ w, r = .tuple #[w, .bool (A5 s).isSome] ∧ Vb eS 1 H w H' ((A5 s).getD [])
theorem Rl {m : Md} {H : Hp} {s : ByteArray} (hs : s.size ≤ 4611686018427387904) (hw : Wr m H) : Ci EE m 190 [.string s] H fun r H' => Yk H s r H' := by
 refine Bt rfl rfl zB (by simp [dQ]) ?_
 have p0 : H <+: H ++ [[]] := Eg
 have w0 := hw.pre p0
 have a57 := Ax (X6 (H := H ++ [[]]) hs)
 have s0 : Dz (H ++ [[]]) (.slice (some ⟨H.length, 0, some 1⟩) 0 (0 * 1)) [] := Jb
 have o0 : Ao H.length (.slice (some ⟨H.length, 0, some 1⟩) 0 (0 * 1)) := .inr ⟨_, _, _, _, rfl, Nat.le_refl _⟩
 generalize hwv : Value.slice (some ⟨H.length, 0, some 1⟩) 0 (0 * 1) = wv0 at s0 o0
 have no : A5 s = none → Yk H s (.tuple #[wv0, .bool false]) (H ++ [[]]) := fun e => ⟨_, by rw [e]; rfl, p0, by rw [e]; exact s0, o0⟩
 cases ht : Ej s with
 | false =>
  simp only [go_sem, Nat.reduceEqDiff, dQ, Ba, hwv, a57, w0, ht]
  exact no (Fk (by unfold Fc; rw [ht]; rfl))
 | true =>
  obtain ⟨c, hc⟩ := (It ht).2
  have hz := Jq ht
  have hix : ∀ {t : St} {x : X}, Av t.ρ x = some (.string s) → Ky t x (.c (.int .i64 0)) = some (.val (.int .u8 c.toNat), t) := fun {t x} hx => H9 (i := 0) hc hx rfl
  have hrs := Bh s 1
  have a140 := Ax (Sv (H := H ++ [[]]) (s := rest s 1) (by omega))
  have hsl1 : ∀ {t : St} {x : X}, Av t.ρ x = some (.string s) → C2 t x (some (.c (.int .i64 1))) none = some (.val (.string (rest s 1)), t) := fun {t x} hx => D9 (k := 1) (by omega) hx rfl
  have w1 : IntKind.i64.wrap (1 + ((Bm (rest s 1)).2 : Int)) = ((1 + (Bm (rest s 1)).2 : Nat) : Int) := by rw [Ab _ (by omega) (by omega)]; omega
  simp only [go_sem, Nat.reduceEqDiff, reduceCtorEq, dQ, Ba, hwv, a57, w0, ht, hix, jR]
  refine Bf.intro (fun q => ?_) (fun q => ?_) <;> simp only [go_sem, Nat.reduceEqDiff, reduceCtorEq, q, hsl1, a140, w0, List.getElem?_toArray, w1]
  rotate_left
  ·have q : ¬ c = 108 := by simpa using q
   exact no (Fk (by unfold Fc; rw [hc]; simp [q]))
  have q : c = 108 := by simpa using q
  have h : Fc s 108 = true := C1.2 ⟨ht, by rw [hc, q]⟩
  have e := Fl h
  have h12 := Ob h
  have hps := fun {i : Nat} (hi : i < (Bm (rest s 1)).1) => Om h hi
  generalize hn : (Bm (rest s 1)).1 = n at *
  generalize he0 : 1 + (Bm (rest s 1)).2 = e0 at *
  unfold Yk
  rw [e]
  refine Ak n (fun i t => H <+: t.H ∧ t.ρ 0 = .val (.string s) ∧ t.ρ 5 = .val (.int .i64 n) ∧ t.ρ 8 = .val (.int .i64 i) ∧ t.ρ 7 = .val (.int .i64 (Fi s e0 i)) ∧ ∃ wv, t.ρ 4 = .val wv ∧ Dz t.H wv (O1 s e0 i) ∧ Ao H.length wv)
   (fun t => H <+: t.H ∧ ∃ wv, t.ρ 4 = .val wv ∧ Dz t.H wv (O1 s e0 n) ∧ Ao H.length wv) ?_ ?_ ?_
  ·exact ⟨p0, by simp [Ah, Cb], by simp [Ah], by simp [Ah], by simp [Ah, Sw], wv0, by simp [Ah], s0, o0⟩
  ·rintro i t hi ⟨kH, k0, k5, k8, k7, wv, k4, ks, ko⟩
   simp only [go_sem, Nat.reduceEqDiff, k0, k5, k8]
   refine Bf.intro (fun q => ?_) (fun q => ?_) <;> simp only [go_sem, Nat.reduceEqDiff, k0, k4, k5, k7, k8]
   ·have hil : i < n := by have := As q; omega
    obtain ⟨t1, t2, t3⟩ := hps hil
    have kw := hw.pre kH
    refine Aa (fun m' h => tK hs 8 (Nat.le_refl _) (H := t.H) (a := Fi s e0 i) (by omega) m' h) rfl kw fun r1 H1 ⟨⟨dd1, e1⟩, e2⟩ => ?_
    subst e1
    have e2 : H1 = t.H := e2
    subst e2
    rw [t1]
    have w2 : IntKind.i64.wrap (((Fi s e0 i : Nat) : Int) + (((Fi s e0 (i + 1) : Nat) : Int) - ((Fi s e0 i : Nat) : Int))) = ((Fi s e0 (i + 1) : Nat) : Int) := by rw [Ab _ (by omega) (by omega)]; omega
    have hsl := fun {t' : St} {x y z : X} => bZ (s := t') (x := x) (y := y) (z := z) t2 t3
    obtain ⟨v2, H2, d1, d2, d3, d4, d5, d6, d7⟩ := ks.oneS (m := m) (s.extract (Fi s e0 i) (Fi s e0 (i + 1))) ko kH.length_le hw (by rw [N4]; omega)
    have hp2 := d7 H (Nat.le_refl _) kH
    simp only [go_sem, Nat.reduceEqDiff, Fj, List.getElem?_toArray, Bd, k0, k4, k5, k7, k8, w2, hsl]
    rw [d1]
    rotate_left
    ·rfl
    ·rfl
    ·rfl
    simp only [go_sem, Nat.reduceEqDiff, k0, k4, k5, k7, k8, w2, Ab ((i : Int) + 1) (by omega) (by omega)]
    exact ⟨hil, hp2, by simp, v2, rfl, by rw [W8]; exact d2, d3⟩
   ·have : i = n := by have := Au q; omega
    subst this
    exact ⟨kH, wv, rfl, ks, ko⟩
  ·rintro t ⟨kH, wv, k4, ks, ko⟩
   simp only [go_sem, Nat.reduceEqDiff, k4]
   exact ⟨wv, rfl, kH, ks, ko⟩
end
section
theorem U6 {α : Type} {l : List α} {i : Nat} {x : α} (hi : i < l.length) (h : x ∉ l.take i) (hx : l[i] ≠ x) : x ∉ l.take (i + 1) := by
 rw [List.take_succ_eq_append_getElem hi]
 simp only [List.mem_append, List.mem_singleton, not_or]
 exact ⟨h, fun e => hx e.symm⟩
open Classical in
noncomputable def Pn (a : ByteArray) (l : List ByteArray) : Bool := decide (a ∈ l)
theorem Uq {a : ByteArray} {l : List ByteArray} : Pn a l = true ↔ a ∈ l := by unfold Pn; simp
theorem Yp {a : ByteArray} {l : List ByteArray} : Pn a l = false ↔ a ∉ l := by unfold Pn; simp
theorem Yf {H : Hp} {v : Value} {l : List Int} {a : Int} (hl : Bu H v l) : Aw EE 183 [v, .int .i64 a] H (.bool (decide (a ∈ l))) := by
 refine Ag rfl rfl Abl (by simp [lN]) rfl fun m hw => ?_
 have hroom := hl.room
 simp only [go_sem, Nat.reduceEqDiff, lN]
 refine Ak l.length (fun i s => s.H = H ∧ s.ρ 0 = .val v ∧ s.ρ 1 = .val (.int .i64 a) ∧ s.ρ 5 = .val (.int .i64 i) ∧ a ∉ l.take i) (fun s => s.H = H ∧ a ∉ l) (by simp [Ah, Cb]) ?_ ?_
 ·rintro i s hi ⟨hH, h0, h1, h5, hn⟩
  simp only [go_sem, Nat.reduceEqDiff, h0, h1, h5, hl.len]
  refine Bf.intro (fun q => ?_) (fun q => ?_) <;> simp only [go_sem, Nat.reduceEqDiff, h0, h1, h5]
  ·have h2 : i < l.length := by simpa using q
   obtain ⟨id, p, o, ho, hr, hia⟩ := hl.int (B7 h2)
   simp only [go_sem, Nat.reduceEqDiff, reduceCtorEq, h0, h1, h5, hia, hH, ho, hr]
   refine Bf.intro (fun h4 => ?_) (fun h4 => ?_) <;> simp only [go_sem, Nat.reduceEqDiff, reduceCtorEq, h0, h1, h5, Ab ((i : Int) + 1) (by omega) (by omega)]
   ·have : l[i] = a := As h4
    simp [← this]
   ·exact ⟨h2, by simp, U6 h2 hn (Au h4)⟩
  ·have h2 : ¬ i < l.length := by simpa using q
   rw [List.take_of_length_le (by omega)] at hn
   exact ⟨hH, hn⟩
 ·rintro s ⟨hH, hn⟩
  simp only [go_sem, hH, hn]
def qI (l : List Int) : Prop := ∀ i, i + 1 < l.length → ∀ a b, l[i]? = some a → l[i + 1]? = some b → a < b
def Zn (kt : List ByteArray) (kk : List Int) : Prop := kt.length ≤ 60 ∧ kk.length ≤ 40 ∧ (∀ i, i < kt.length → ∀ a, kt[i]? = some a → Ej a = true ∧ a ∉ kt.take i) ∧ (∀ x ∈ kk, Eu x = true) ∧ qI kk
noncomputable def Wo (t : ByteArray) : ByteArray := rest t (1 + (Bm (rest t 1)).2)
noncomputable def Js (t : ByteArray) : Int := ((Bm (rest t 1)).1 : Nat)
noncomputable def Oj (n : Int) : ByteArray := Zf ((⟨#[107]⟩ : ByteArray) ++ Bx n)
theorem Lr {n : Int} (h : Eu n = true) : Ej (Oj n) = true ∧ Oj n = (⟨#[107]⟩ : ByteArray) ++ Bx n ∧ (Oj n)[0]? = some 107 ∧ Js (Oj n) = n := by
 simp only [Eu, Bool.and_eq_true, decide_eq_true_eq] at h
 have hn : ((n.toNat : Nat) : Int) = n := Int.toNat_of_nonneg (by omega)
 have hr : Bm (Bx n) = (n.toNat, (Cv n.toNat).length) := by
  have := R5 (n := n.toNat) (x := ByteArray.empty) (by omega)
  rw [hn] at this
  simpa using this
 have hV : (Bx n).size = (Cv n.toNat).length := by unfold Bx; rw [if_pos (by omega), Cf]
 have hp := G7 n.toNat
 have h7 := D0 n
 have h1 : ((⟨#[107]⟩ : ByteArray) ++ Bx n)[0]? = some 107 := aJ 107 _
 have hrest : rest ((⟨#[107]⟩ : ByteArray) ++ Bx n) 1 = Bx n := Sk 107 _
 have hsz : ((⟨#[107]⟩ : ByteArray) ++ Bx n).size = 1 + (Bx n).size := by rw [C6, Mx]
 have hT : Ej ((⟨#[107]⟩ : ByteArray) ++ Bx n) = true := by
  rw [Ei]
  refine ⟨by omega, by omega, ?_⟩
  show Ca _ _ 0 = _
  unfold Ca
  rw [h1]
  simp only [Nat.zero_add]
  rw [hrest, hr, if_neg (by simp only; omega), if_neg (by decide), if_pos trivial, if_pos ⟨by simp only; omega, by simp only; omega⟩, hsz, hV]
 have hk : Oj n = (⟨#[107]⟩ : ByteArray) ++ Bx n := by unfold Oj Zf; rw [if_pos hT]
 rw [hk]
 refine ⟨hT, rfl, h1, ?_⟩
 unfold Js
 rw [hrest, hr]
 exact hn
theorem mC {s : ByteArray} (h : Fc s 107 = true) : Eu (Js s) = true ∧ s = Oj (Js s) := by
 obtain ⟨ht, hc⟩ := C1.1 h
 obtain ⟨h1, h2, h3⟩ := Ei.1 ht
 have h3 : Ca s (Fa s 7) 0 = some s.size := h3
 unfold Ca at h3
 rw [hc] at h3
 simp only [Nat.zero_add] at h3
 split at h3
 ·cases h3
 ·rename_i hk0
  rw [if_neg (by decide), if_pos trivial] at h3
  split at h3
  ·rename_i hin
   have hin' : Eu (Js s) = true := by
    have hb : (1 : Int) ≤ Js s ∧ Js s ≤ 1000000 := by unfold Js; omega
    unfold Eu
    simp only [Bool.and_eq_true, decide_eq_true_eq]
    exact ⟨hb.1, hb.2⟩
   refine ⟨hin', ?_⟩
   rw [(Lr hin').2.1]
   have hsz := Option.some.inj h3
   rcases Mh (rest s 1) with he | ⟨n, k, he, hv⟩
   ·rw [he] at hk0; exact absurd rfl hk0
   ·have hl : Js s = (n : Int) := by unfold Js; rw [he]
    rw [he] at hsz
    obtain ⟨_, _, h6, h7, h8⟩ := hv
    unfold X7 at h8
    rw [← h7] at h8
    rw [hl, h8]
    have hk : k = (rest s 1).size := by rw [Bh]; simp only at hsz; omega
    rw [hk]
    have e1 : (rest s 1).extract 0 (rest s 1).size = rest s 1 := ByteArray.extract_zero_size
    rw [e1]
    refine ByteArray.ext (Array.ext_getElem? fun i => ?_)
    show s[i]? = ((⟨#[107]⟩ : ByteArray) ++ rest s 1)[i]?
    cases i with
    | zero => rw [hc]; exact (aJ 107 _).symm
    | succ i =>
     have e2 : ((⟨#[107]⟩ : ByteArray) ++ rest s 1)[i + 1]? = (rest s 1)[i]? := by
      have := Qb (a := (⟨#[107]⟩ : ByteArray)) (b := rest s 1) (i := i)
      rw [show (⟨#[107]⟩ : ByteArray).size + i = i + 1 by rw [Mx]; omega] at this
      exact this
     rw [e2]
     unfold rest
     show s.data[i + 1]? = (s.extract 1 s.size).data[i]?
     rw [ByteArray.data_extract, Array.getElem?_extract]
     have hds : s.size = s.data.size := rfl
     split
     ·congr 1; omega
     ·rename_i hlt
      rw [Array.getElem?_eq_none (by omega)]
  ·cases h3
theorem Yg {t : ByteArray} (h : Fc t 115 = true) : Eu (Js t) = true := by
 obtain ⟨ht, hc⟩ := C1.1 h
 obtain ⟨h1, h2, h3⟩ := Ei.1 ht
 have h3 : Ca t (Fa t 7) 0 = some t.size := h3
 unfold Ca at h3
 rw [hc] at h3
 simp only [Nat.zero_add] at h3
 split at h3
 ·cases h3
 ·rw [if_neg (by decide), if_neg (by decide), if_neg (by decide), if_pos trivial] at h3
  split at h3
  ·rename_i hin
   have hb : (1 : Int) ≤ Js t ∧ Js t ≤ 1000000 := by unfold Js; omega
   unfold Eu
   simp only [Bool.and_eq_true, decide_eq_true_eq]
   exact ⟨hb.1, hb.2⟩
  ·cases h3
theorem iC (c : UInt8) : decide (((c.toNat : Nat) : Int) = 107) = decide (c = 107) := qY 107 (by decide) c
theorem Zg {H : Hp} {s : ByteArray} (hs : s.size ≤ 4611686018427387904) : Aw EE 214 [.string s] H (.tuple #[.int .i64 (if Fc s 107 = true then Js s else 0), .bool (Fc s 107)]) := by
 refine Ag rfl rfl sC (by simp [jY]) rfl fun m hw => ?_
 have a57 := Ax (X6 (H := H) hs)
 simp only [go_sem, Nat.reduceEqDiff, jY, a57, hw]
 cases q1 : Ej s <;> simp only [go_sem, Nat.reduceEqDiff]
 ·have : Fc s 107 = false := by unfold Fc; rw [q1]; rfl
  rw [this]
  rfl
 have h0 := (Ei.1 q1).1
 obtain ⟨c, hc⟩ := Hg (show 0 < s.size by omega)
 have hix : ∀ {t : St} {x : X}, Av t.ρ x = some (.string s) → Ky t x (.c (.int .i64 0)) = some (.val (.int .u8 c.toNat), t) := fun hx => H9 (i := 0) hc hx rfl
 simp only [go_sem, Nat.reduceEqDiff, hix, iC]
 cases q2 : decide (c = 107) <;> simp only [go_sem, Nat.reduceEqDiff, reduceCtorEq]
 ·have : Fc s 107 = false := by
   cases h : Fc s 107 with
   | false => rfl
   | true =>
    have := (C1.1 h).2
    rw [hc] at this
    exact absurd (Option.some.inj this) (Au q2)
  rw [this]
  rfl
 ·have : Fc s 107 = true := C1.2 ⟨q1, by rw [hc, As q2]⟩
  have hsl : ∀ {t : St} {x : X}, Av t.ρ x = some (.string s) → C2 t x (some (.c (.int .i64 1))) none = some (.val (.string (rest s 1)), t) := fun hx => D9 (k := 1) (by omega) hx rfl
  have a140 := Ax (Sv (H := H) (s := rest s 1) (by rw [Bh]; omega))
  simp only [go_sem, Nat.reduceEqDiff, hsl, a140, hw, List.getElem?_toArray, Bd]
  rw [this]
  rfl
theorem Di.cut {s y : ByteArray} {n k : Nat} (h : Di (s ++ y) n k) (hk : k ≤ s.size) : Di s n k := by
 obtain ⟨h1, h2, h3, h4, h5⟩ := h
 refine ⟨h1, h2, hk, by rw [← Jg (y := y) hk]; exact h4, ?_⟩
 unfold X7 at h5 ⊢
 rw [Jg hk, M6 hk] at h5
 exact h5
theorem dE {s y : ByteArray} (h : ¬ (Bm (s ++ y)).2 = 0) (hk : (Bm (s ++ y)).2 ≤ s.size) : Bm s = Bm (s ++ y) := by
 rcases Mh (s ++ y) with h2 | ⟨n, k, h2, hr⟩
 ·rw [h2] at h; exact absurd rfl h
 ·rw [h2] at hk ⊢
  exact Oy (hr.cut hk)
theorem Za {f g : Nat → Option Nat} {c m : Nat} (hf : ∀ a e, f a = some e → a < e) (hfg : ∀ a e, e ≤ m → f (c + a) = some (c + e) → g a = some e) : ∀ {i a e : Nat}, e ≤ m → Je f i (c + a) = some (c + e) → Je g i a = some e
 | 0, a, e, _, h => by
  simp only [Je, Option.some.injEq] at h ⊢
  omega
 | i + 1, a, e, he, h => by
  rw [Je] at h ⊢
  cases hfa : f (c + a) with
  | none => rw [hfa] at h; cases h
  | some e' =>
   rw [hfa] at h
   have h1 := hf _ _ hfa
   have hle : ∀ {i a e : Nat}, Je f i a = some e → a ≤ e := by
    intro i
    induction i with
    | zero => intro a e h; simp only [Je, Option.some.injEq] at h; omega
    | succ i ih =>
     intro a e h
     rw [Je] at h
     cases hfa : f a with
     | none => rw [hfa] at h; cases h
     | some x =>
      rw [hfa] at h
      have := hf _ _ hfa
      have := ih h
      omega
   have h2 := hle h
   obtain ⟨b, rfl⟩ : ∃ b, e' = c + b := ⟨e' - c, by omega⟩
   rw [hfg a b (by omega) hfa]
   exact Za hf hfg he h
theorem Zv {x t y : ByteArray} : ∀ {d a e : Nat}, e ≤ t.size → Fa (x ++ t ++ y) d (x.size + a) = some (x.size + e) → Fa t d a = some e
 | 0, a, e, _, h => by cases h
 | d + 1, a, e, he, h => by
  have ih : ∀ a e, e ≤ t.size → Fa (x ++ t ++ y) d (x.size + a) = some (x.size + e) → Fa t d a = some e := fun a e he h => Zv he h
  have hlt := (Ef h).1
  rw [Fa, Ca] at h ⊢
  have hal : a < t.size := by omega
  obtain ⟨c, hc⟩ := Hg hal
  have hc2 : (x ++ t ++ y)[x.size + a]? = some c := by
   rw [I3 (by rw [ByteArray.size_append]; omega), Qb]
   exact hc
  rw [hc2] at h
  rw [hc]
  simp only at h ⊢
  have hrest : rest (x ++ t ++ y) (x.size + a + 1) = rest t (a + 1) ++ y := by
   rw [show x.size + a + 1 = x.size + (a + 1) by omega, Zj (by omega)]
  rw [hrest] at h
  have hsz : (x ++ t ++ y).size = x.size + t.size + y.size := by rw [ByteArray.size_append, ByteArray.size_append]
  by_cases hk : (Bm (rest t (a + 1) ++ y)).2 = 0
  ·rw [if_pos hk] at h; cases h
  rw [if_neg hk] at h
  have hin : (Bm (rest t (a + 1) ++ y)).2 ≤ (rest t (a + 1)).size → Bm (rest t (a + 1)) = Bm (rest t (a + 1) ++ y) := dE hk
  rw [Bh] at hin
  generalize hR : Bm (rest t (a + 1) ++ y) = R at *
  by_cases h97 : c = 97
  ·rw [if_pos h97] at h
   split at h
   ·rename_i h2
    have h3 := Option.some.inj h
    rw [hin (by omega), if_neg hk, if_pos h97, if_pos ⟨h2.1, by omega⟩]
    congr 1
    omega
   ·cases h
  rw [if_neg h97] at h
  by_cases h107 : c = 107
  ·rw [if_pos h107] at h
   split at h
   ·rename_i h2
    have h3 := Option.some.inj h
    rw [hin (by omega), if_neg hk, if_neg h97, if_pos h107, if_pos h2]
    congr 1
    omega
   ·cases h
  rw [if_neg h107] at h
  by_cases h108 : c = 108
  ·rw [if_pos h108] at h
   split at h
   ·rename_i h2
    rw [show x.size + a + 1 + R.2 = x.size + (a + 1 + R.2) by omega] at h
    have hle := Kt (s := x ++ t ++ y) (f := Fa (x ++ t ++ y) d) (fun a e h => Ef h) (i := R.1) (a := x.size + (a + 1 + R.2)) (e := x.size + e) (by
     have := Kz (rest t (a + 1) ++ y)
     rw [hR, ByteArray.size_append, Bh] at this
     omega) h
    rw [hin (by omega), if_neg hk, if_neg h97, if_neg h107, if_pos h108, if_pos h2]
    exact Za (fun a e h => (Ef h).1) ih he h
   ·cases h
  rw [if_neg h108] at h
  by_cases h115 : c = 115
  ·rw [if_pos h115] at h
   split at h
   ·rename_i h2
    rw [show x.size + a + 1 + R.2 = x.size + (a + 1 + R.2) by omega] at h
    have hle := (Ef h).1
    rw [hin (by omega), if_neg hk, if_neg h97, if_neg h107, if_neg h108, if_pos h115, if_pos h2]
    exact ih _ _ he h
   ·cases h
  rw [if_neg h115] at h
  cases h
def Le (p s : ByteArray) : Prop := ∃ x y, s = x ++ p ++ y
theorem Le.refl (s : ByteArray) : Le s s := ⟨ByteArray.empty, ByteArray.empty, by simp⟩
theorem Le.trans {p s u : ByteArray} (h : Le p s) (k : Le s u) : Le p u := by
 obtain ⟨x, y, rfl⟩ := h
 obtain ⟨x', y', rfl⟩ := k
 exact ⟨x' ++ x, y ++ y', by simp only [ByteArray.append_assoc]⟩
theorem Le.size {p s : ByteArray} (h : Le p s) : p.size ≤ s.size := by
 obtain ⟨x, y, rfl⟩ := h
 rw [ByteArray.size_append, ByteArray.size_append]
 omega
theorem Z1 (s : ByteArray) {a b : Nat} (hab : a ≤ b) (hb : b ≤ s.size) : s = s.extract 0 a ++ s.extract a b ++ s.extract b s.size := by
 rw [ByteArray.extract_append_extract, Nat.min_eq_left (Nat.zero_le _), Nat.max_eq_right hab, ByteArray.extract_append_extract]
 rw [Nat.min_eq_left (Nat.zero_le _), Nat.max_eq_right hb, ByteArray.extract_zero_size]
def cP (kt : List ByteArray) : List ByteArray := kt.flatMap fun u => (List.range 901).flatMap fun a => (List.range 901).map fun b => u.extract a b
theorem Zi {kt : List ByteArray} {u p : ByteArray} (hu : u ∈ kt) (hz : u.size ≤ 900) (h : Le p u) : p ∈ cP kt := by
 obtain ⟨x, y, rfl⟩ := h
 rw [ByteArray.size_append, ByteArray.size_append] at hz
 refine List.mem_flatMap.2 ⟨_, hu, List.mem_flatMap.2 ⟨x.size, List.mem_range.2 (by omega), List.mem_map.2 ⟨x.size + p.size, List.mem_range.2 (by omega), Tq⟩⟩⟩
theorem Zy (kt : List ByteArray) : (cP kt).length = kt.length * (901 * 901) := by
 unfold cP
 induction kt with
 | nil => rfl
 | cons a l ih =>
  rw [List.flatMap_cons, List.length_append, ih]
  have : ((List.range 901).flatMap fun i => (List.range 901).map fun b => a.extract i b).length = 901 * 901 := by
   rw [List.length_flatMap]
   have : (List.range 901).map (fun i => ((List.range 901).map fun b => a.extract i b).length) = List.replicate 901 901 := by
    rw [List.eq_replicate_iff]
    refine ⟨by simp, fun b hb => ?_⟩
    obtain ⟨j, _, rfl⟩ := List.mem_map.1 hb
    simp
   rw [this]
   simp
  rw [this, List.length_cons, Nat.add_mul, Nat.one_mul, Nat.add_comm]
theorem Ju {α : Type} : ∀ {l S : List α}, l.Nodup → (∀ x ∈ l, x ∈ S) → l.length ≤ S.length
 | [], _, _, _ => Nat.zero_le _
 | a :: l, S, hn, hs => by
  obtain ⟨S1, S2, rfl⟩ := List.append_of_mem (hs a (by simp))
  have hn' := List.nodup_cons.1 hn
  have := Ju (S := S1 ++ S2) hn'.2 fun x hx => by
   have h1 := hs x (List.mem_cons_of_mem _ hx)
   have h2 : x ≠ a := fun e => hn'.1 (e ▸ hx)
   simp only [List.mem_append, List.mem_cons] at h1 ⊢
   rcases h1 with h1 | h1 | h1
   ·exact .inl h1
   ·exact absurd h1 h2
   ·exact .inr h1
  simp only [List.length_append, List.length_cons] at this ⊢
  omega
theorem Mp {s p : ByteArray} (h : Fc s 108 = true) (hp : p ∈ (A5 s).getD []) : Ej p = true ∧ Le p s := by
 obtain ⟨ht, hc⟩ := C1.1 h
 rw [Fl h] at hp
 have hp : p ∈ O1 s (1 + (Bm (rest s 1)).2) (Bm (rest s 1)).1 := hp
 obtain ⟨j, hj, rfl⟩ := List.mem_map.1 hp
 have hj := List.mem_range.1 hj
 obtain ⟨e, h1, h2⟩ := Ll ht hc j (by omega)
 obtain ⟨e', h3, h4⟩ := Ll ht hc (j + 1) (by omega)
 have hstep := Ts h1 h3
 have hlt := (Ef hstep).1
 have ee : Fi s (1 + (Bm (rest s 1)).2) j = e := by unfold Fi; rw [h1]; rfl
 have ee' : Fi s (1 + (Bm (rest s 1)).2) (j + 1) = e' := by unfold Fi; rw [h3]; rfl
 rw [ee, ee']
 have h3s := Z1 s (Nat.le_of_lt hlt) h4
 have hz1 : (s.extract 0 e).size = e := by rw [ByteArray.size_extract]; omega
 have hz2 : (s.extract e e').size = e' - e := by rw [ByteArray.size_extract]; omega
 refine ⟨?_, _, _, h3s⟩
 rw [Ei]
 have h900 := (Ei.1 ht).2.1
 refine ⟨by omega, by omega, ?_⟩
 have hin := Zv (x := s.extract 0 e) (t := s.extract e e') (y := s.extract e' s.size) (d := 8) (a := 0) (e := (s.extract e e').size) (Nat.le_refl _) (by
  rw [← h3s, hz1, hz2, Nat.add_zero, show e + (e' - e) = e' by omega]
  exact hstep)
 exact hin
theorem Li {s : ByteArray} (h : Fc s 115 = true) : Ej (Wo s) = true ∧ Le (Wo s) s := by
 obtain ⟨ht, hc⟩ := C1.1 h
 obtain ⟨h1, h900, h8⟩ := Ei.1 ht
 have h8 : Ca s (Fa s 7) 0 = some s.size := h8
 unfold Ca at h8
 rw [hc] at h8
 simp only [Nat.zero_add] at h8
 split at h8
 ·cases h8
 rw [if_neg (by decide), if_neg (by decide), if_neg (by decide), if_pos trivial] at h8
 split at h8
 ·have h7 := Qx h8
  have hlt := (Ef h7).1
  have h3s := Z1 s (a := 1 + (Bm (rest s 1)).2) (b := s.size) (by omega) (Nat.le_refl _)
  have hz1 : (s.extract 0 (1 + (Bm (rest s 1)).2)).size = 1 + (Bm (rest s 1)).2 := by rw [ByteArray.size_extract]; omega
  have ei : Wo s = s.extract (1 + (Bm (rest s 1)).2) s.size := rfl
  have hz2 : (Wo s).size = s.size - (1 + (Bm (rest s 1)).2) := by rw [ei, ByteArray.size_extract]; omega
  rw [← ei] at h3s
  refine ⟨?_, _, _, h3s⟩
  rw [Ei]
  refine ⟨by omega, by omega, ?_⟩
  exact Zv (x := s.extract 0 (1 + (Bm (rest s 1)).2)) (t := Wo s) (y := s.extract s.size s.size) (d := 8) (a := 0) (e := (Wo s).size) (Nat.le_refl _) (by
   rw [← h3s, hz1, hz2, Nat.add_zero, show 1 + (Bm (rest s 1)).2 + (s.size - (1 + (Bm (rest s 1)).2)) = s.size by omega]
   exact h7)
 ·cases h8
def Xe : Nat := 60 * (901 * 901)
theorem oG : Xe = 48708060 := by decide
inductive Oi (kt : List ByteArray) (kk : List Int) : ByteArray → Prop
 | known {t : ByteArray} : t ∈ kt → Oi kt kk t
 | part {t p : ByteArray} : Oi kt kk t → p ∈ (A5 t).getD [] → Oi kt kk p
 | opened {t : ByteArray} : Oi kt kk t → Fc t 115 = true → Js t ∈ kk → Oi kt kk (Wo t)
 | shown {t : ByteArray} : Oi kt kk t → Fc t 115 = true → Oi kt kk (Oj (Js t)) → Oi kt kk (Wo t)
theorem Sl.oneI2 {m : Md} {N : Nat} {H : Hp} {v : Value} {l : List Int} (a : Int) (h : Bu H v l) (ho : Ao N v) (hN : N ≤ H.length) (hw : ∀ id, N ≤ id → m.wr id = true) (hb : l.length ≤ 100000010) :
  ∃ v' H', (∀ (s : St) (x y : X), s.H = H → Av s.ρ x = some v → ex s.ρ y = .vs 1 [.int .i64 a] → Ce m s 1 8 x y = some (.val v', { s with H := H' })) ∧ Bu H' v' (l ++ [a]) ∧ Ao N v' ∧
   (∀ j, j < H.length → j ∉ Ae v → H'[j]? = H[j]?) ∧ H.length ≤ H'.length ∧ (∀ j ∈ Ae v', j ∈ Ae v ∨ H.length ≤ j) ∧ ∀ H0 : Hp, H0.length ≤ N → H0 <+: H → H0 <+: H' := by
 obtain ⟨v', H', h1, h2⟩ := h.app (m := m) (n := 1) (bytes := 8) (l2 := [a]) (cs := [.int .i64 a]) ho hN hw (fun _ => rfl) (by simp) rfl (fun i b hi => by
  cases i with
  | zero => simp at hi; subst hi; rfl
  | succ i => simp at hi) (by unfold Ev.room; simp; omega) (by unfold Ev.room; simp; omega)
 exact ⟨v', H', fun s x y hH hx hy => h1 s x y hH hx (by rw [hy]; rfl), h2⟩
theorem Sl.oneS2 {m : Md} {N : Nat} {H : Hp} {v : Value} {l : List ByteArray} (a : ByteArray) (h : Dz H v l) (ho : Ao N v) (hN : N ≤ H.length) (hw : ∀ id, N ≤ id → m.wr id = true) (hb : l.length ≤ 100000010) :
  ∃ v' H', (∀ (s : St) (x y : X), s.H = H → Av s.ρ x = some v → ex s.ρ y = .vs 1 [.string a] → Ce m s 1 16 x y = some (.val v', { s with H := H' })) ∧ Dz H' v' (l ++ [a]) ∧ Ao N v' ∧
   (∀ j, j < H.length → j ∉ Ae v → H'[j]? = H[j]?) ∧ H.length ≤ H'.length ∧ (∀ j ∈ Ae v', j ∈ Ae v ∨ H.length ≤ j) ∧ ∀ H0 : Hp, H0.length ≤ N → H0 <+: H → H0 <+: H' := by
 obtain ⟨v', H', h1, h2⟩ := h.app (m := m) (n := 1) (bytes := 16) (l2 := [a]) (cs := [.string a]) ho hN hw (fun _ => rfl) (by simp) rfl (fun i b hi => by
  cases i with
  | zero => simp at hi; subst hi; rfl
  | succ i => simp at hi) (by unfold Ev.room; simp; omega) (by unfold Ev.room; simp; omega)
 exact ⟨v', H', fun s x y hH hx hy => h1 s x y hH hx (by rw [hy]; rfl), h2⟩
theorem Sl.aside {α : Type} {R : α → List Value → Prop} {esz : Nat} {H H' : Hp} {v w : Value} {l : List α} (h : Sl R esz H v l) (hd : ∀ j ∈ Ae v, j ∉ Ae w) (hf : ∀ j, j < H.length → j ∉ Ae w → H'[j]? = H[j]?) : Sl R esz H' v l :=
 have hi := h.ids
 h.frame (fun _ _ _ h => h) fun i off e ln cap hv => hf i (hi i (by subst hv; simp [Ae])) (hd i (by subst hv; simp [Ae]))
theorem Rv {l k : List Int} (h : Po k) (hm : ∀ x, x ∈ k ↔ x ∈ l) : k = W5 l := h.eq (We l) fun x => (hm x).trans (Lg l x).symm
theorem Nb {l : List Int} (h : Po l) {i : Nat} (hi : i < l.length) : (∀ y ∈ l.take i, y < l[i]) ∧ ∀ z ∈ l.drop (i + 1), l[i] < z := by
 have h := List.pairwise_iff_getElem.1 h
 refine ⟨fun y hy => ?_, fun z hz => ?_⟩
 ·obtain ⟨j, hj, rfl⟩ := List.mem_iff_getElem.1 hy
  rw [List.length_take] at hj
  rw [List.getElem_take]
  exact h _ _ _ _ (by omega)
 ·obtain ⟨j, hj, rfl⟩ := List.mem_iff_getElem.1 hz
  rw [List.length_drop] at hj
  rw [List.getElem_drop]
  exact h _ _ _ _ (by omega)
structure Pq (l : List Int) (x : Int) (i : Nat) (b : Bool) (ol : List Int) : Prop where
 no : b = false → ol = l.take i ∧ ∀ y ∈ l.take i, y < x
 yes : b = true → Po ol ∧ (∀ y, y ∈ ol ↔ y ∈ l.take i ∨ y = x) ∧ ∀ y ∈ ol, ∀ z ∈ l.drop i, y < z
 le : ol.length ≤ i + 1
theorem Pq.end_ {l : List Int} {x : Int} {b : Bool} {ol : List Int} (h : Pq l x l.length b ol) (ha : Po l) : (b = true → ol = W5 (l ++ [x])) ∧ (b = false → ol ++ [x] = W5 (l ++ [x])) := by
 refine ⟨fun hb => ?_, fun hb => ?_⟩
 ·obtain ⟨h1, h2, _⟩ := h.yes hb
  refine Rv h1 fun y => ?_
  rw [h2 y, List.take_length]
  simp
 ·obtain ⟨h1, h2⟩ := h.no hb
  rw [List.take_length] at h1 h2
  subst h1
  refine Rv ?_ fun y => Iff.rfl
  exact List.pairwise_append.2 ⟨ha, by simp, fun y hy z hz => by rw [List.mem_singleton] at hz; subst hz; exact h2 y hy⟩
theorem Pq.put {l : List Int} {x : Int} {i : Nat} {ol : List Int} (h : Pq l x i false ol) (ha : Po l) (hi : i < l.length) (hx : x < l[i]) : Pq l x (i + 1) true (ol ++ [x] ++ [l[i]]) := by
 obtain ⟨e, hb⟩ := h.no rfl
 subst e
 have ⟨a1, a2⟩ := Nb ha hi
 refine ⟨fun h => (by cases h), fun _ => ⟨?_, fun y => ?_, fun y hy z hz => ?_⟩, ?_⟩
 ·refine List.pairwise_append.2 ⟨List.pairwise_append.2 ⟨ha.sublist (List.take_sublist _ _), by simp, fun y hy z hz => ?_⟩, by simp, fun y hy z hz => ?_⟩
  ·rw [List.mem_singleton] at hz; subst hz; exact hb y hy
  ·rw [List.mem_singleton] at hz; subst hz
   rcases Lh hy with hy | hy
   ·exact a1 y hy
   ·rw [List.mem_singleton] at hy; subst hy; exact hx
 ·rw [List.take_succ_eq_append_getElem hi]
  simp only [List.mem_append, List.mem_singleton]
  constructor
  ·rintro ((h | h) | h)
   ·exact .inl (.inl h)
   ·exact .inr h
   ·exact .inl (.inr h)
  ·rintro ((h | h) | h)
   ·exact .inl (.inl h)
   ·exact .inr h
   ·exact .inl (.inr h)
 ·have hz2 := a2 z hz
  rcases Lh hy with hy | hy
  ·rcases Lh hy with hy | hy
   ·have := a1 y hy; omega
   ·rw [List.mem_singleton] at hy; omega
  ·rw [List.mem_singleton] at hy; omega
 ·simp only [List.length_append, List.length_take, List.length_singleton]; omega
theorem Pq.go {l : List Int} {x : Int} {i : Nat} {b : Bool} {ol : List Int} (h : Pq l x i b ol) (ha : Po l) (hi : i < l.length) (hx : b = true ∨ (¬ x < l[i] ∧ x ≠ l[i])) : Pq l x (i + 1) b (ol ++ [l[i]]) := by
 have ⟨a1, a2⟩ := Nb ha hi
 have hd : l.drop i = l[i] :: l.drop (i + 1) := List.drop_eq_getElem_cons hi
 refine ⟨fun hb => ?_, fun hb => ?_, by have := h.le; simp only [List.length_append, List.length_singleton]; omega⟩
 ·obtain ⟨e, hb2⟩ := h.no hb
  rw [List.take_succ_eq_append_getElem hi]
  refine ⟨by rw [e], fun y hy => ?_⟩
  rcases Lh hy with hy | hy
  ·exact hb2 y hy
  ·rw [List.mem_singleton] at hy
   rcases hx with hx | hx
   ·rw [hb] at hx; cases hx
   ·omega
 ·obtain ⟨h1, h2, h3⟩ := h.yes hb
  rw [hd] at h3
  refine ⟨List.pairwise_append.2 ⟨h1, by simp, fun y hy z hz => by rw [List.mem_singleton] at hz; subst hz; exact h3 y hy _ List.mem_cons_self⟩, fun y => ?_, fun y hy z hz => ?_⟩
  ·rw [List.take_succ_eq_append_getElem hi]
   simp only [List.mem_append, List.mem_singleton, h2 y]
   constructor
   ·rintro ((h | h) | h)
    ·exact .inl (.inl h)
    ·exact .inr h
    ·exact .inl (.inr h)
   ·rintro ((h | h) | h)
    ·exact .inl (.inl h)
    ·exact .inr h
    ·exact .inl (.inr h)
  ·rcases Lh hy with hy | hy
   ·exact h3 y hy z (List.mem_cons_of_mem _ hz)
   ·rw [List.mem_singleton] at hy; subst hy; exact a2 z hz
theorem oI {m : Md} {H : Hp} {v : Value} {l : List Int} {x : Int} (hl : Bu H v l) (ha : Po l) (hle : l.length ≤ 100000000) (hw : Wr m H) : Ci EE m 200 [v, .int .i64 x] H fun r H' => H <+: H' ∧ Bu H' r (W5 (l ++ [x])) ∧ (r = v ∨ Ao H.length r) := by
 refine Bt rfl rfl xW (by simp [iJ]) ?_
 have a183 := Ax (Yf (a := x) hl)
 have p0 : H <+: H ++ [[]] := Eg
 have s0 : Bu (H ++ [[]]) (.slice (some ⟨H.length, 0, some 1⟩) 0 (0 * 1)) [] := Eb
 have o0 : Ao H.length (.slice (some ⟨H.length, 0, some 1⟩) 0 (0 * 1)) := .inr ⟨_, _, _, _, rfl, Nat.le_refl _⟩
 generalize hwv : Value.slice (some ⟨H.length, 0, some 1⟩) 0 (0 * 1) = wv0 at s0 o0
 simp only [go_sem, Nat.reduceEqDiff, iJ, a183, hw]
 refine Bf.intro (fun c0 => ?_) (fun c0 => ?_) <;> simp only [go_sem, Nat.reduceEqDiff, Ba, hwv]
 ·have hm := As c0
  have : W5 (l ++ [x]) = l := (Rv ha fun y => by
   rw [List.mem_append, List.mem_singleton]
   exact ⟨fun h => .inl h, fun h => by rcases h with h | h; exact h; subst h; exact hm⟩).symm
  rw [this]
  exact ⟨List.prefix_refl _, hl, .inl trivial⟩
 have hx := Au c0
 refine Ak l.length (fun i s => H <+: s.H ∧ s.ρ 0 = .val v ∧ s.ρ 1 = .val (.int .i64 x) ∧ s.ρ 4 = .val (.slice none 0 0) ∧ s.ρ 7 = .val (.int .i64 i) ∧ ∃ b wv ol, s.ρ 6 = .val (.bool b) ∧ s.ρ 5 = .val wv ∧ Bu s.H wv ol ∧ Ao H.length wv ∧ Pq l x i b ol)
  (fun s => H <+: s.H ∧ s.ρ 1 = .val (.int .i64 x) ∧ s.ρ 4 = .val (.slice none 0 0) ∧ ∃ b wv ol, s.ρ 6 = .val (.bool b) ∧ s.ρ 5 = .val wv ∧ Bu s.H wv ol ∧ Ao H.length wv ∧ Pq l x l.length b ol) ?_ ?_ ?_
 ·exact ⟨p0, by simp [Ah, Cb], by simp [Ah, Cb], by simp [Ah], by simp [Ah], false, wv0, [], by simp [Ah], by simp [Ah], s0, o0, ⟨fun _ => ⟨by simp, by simp⟩, fun h => (by cases h), by simp⟩⟩
 ·rintro i s hi ⟨kH, k0, k1, k4, k7, b, wv, ol, k6, k5, ks, ko, kp⟩
  have kv := hl.pre kH
  simp only [go_sem, Nat.reduceEqDiff, k0, k1, k4, k5, k6, k7, kv.len]
  cases q1 : decide ((i : Int) < (l.length : Int)) <;> simp only [go_sem, Nat.reduceEqDiff, reduceCtorEq, k0, k1, k4, k5, k6, k7, q1]
  ·have : i = l.length := by have := Au q1; omega
   subst this
   exact ⟨kH, b, wv, ol, rfl, rfl, ks, ko, kp⟩
  have hil : i < l.length := by have := As q1; omega
  have w1 := Ab ((i : Int) + 1) (by omega) (by omega)
  obtain ⟨id, p, o, ho, hre, hia⟩ := kv.int (B7 hil)
  have hole := kp.le
  have hne : x ≠ l[i] := fun e => hx (by rw [e]; exact List.getElem_mem hil)
  cases b with
  | true =>
   obtain ⟨v3, H3, d1, d2, d3, d4, d5, d6, d7⟩ := ks.oneI2 (m := m) l[i] ko kH.length_le hw (by omega)
   simp only [go_sem, Nat.reduceEqDiff, reduceCtorEq, k0, k1, k4, k5, k6, k7, hia, ho, hre]
   rw [d1]
   rotate_left
   ·rfl
   ·rfl
   ·rfl
   simp only [go_sem, Nat.reduceEqDiff, reduceCtorEq, k0, k1, k4, k5, k6, k7, w1]
   exact ⟨hil, d7 H (Nat.le_refl _) kH, by simp, true, v3, _, rfl, rfl, d2, d3, kp.go ha hil (.inl rfl)⟩
  | false =>
   simp only [go_sem, Nat.reduceEqDiff, reduceCtorEq, k0, k1, k4, k5, k6, k7, hia, ho, hre]
   cases q2 : decide (x < l[i]) <;> simp only [go_sem, Nat.reduceEqDiff, reduceCtorEq, k0, k1, k4, k5, k6, k7, q2]
   ·obtain ⟨v3, H3, d1, d2, d3, d4, d5, d6, d7⟩ := ks.oneI2 (m := m) l[i] ko kH.length_le hw (by omega)
    simp only [go_sem, Nat.reduceEqDiff, reduceCtorEq, k0, k1, k4, k5, k6, k7, hia, ho, hre]
    rw [d1]
    rotate_left
    ·rfl
    ·rfl
    ·rfl
    simp only [go_sem, Nat.reduceEqDiff, reduceCtorEq, k0, k1, k4, k5, k6, k7, w1]
    exact ⟨hil, d7 H (Nat.le_refl _) kH, by simp, false, v3, _, rfl, rfl, d2, d3, kp.go ha hil (.inr ⟨Au q2, hne⟩)⟩
   ·obtain ⟨v3, H3, d1, d2, d3, d4, d5, d6, d7⟩ := ks.oneI2 (m := m) x ko kH.length_le hw (by omega)
    have p3 := d7 H (Nat.le_refl _) kH
    rw [d1]
    rotate_left
    ·rfl
    ·rfl
    ·rfl
    obtain ⟨id', p', o', ho', hre', hia'⟩ := (hl.pre p3).int (B7 hil)
    obtain ⟨v5, H5, g1, g2, g3, g4, g5, g6, g7⟩ := d2.oneI2 (m := m) l[i] d3 p3.length_le hw (by simp; omega)
    simp only [go_sem, Nat.reduceEqDiff, reduceCtorEq, k0, k1, k4, k5, k6, k7, hia', ho', hre']
    rw [g1]
    rotate_left
    ·rfl
    ·rfl
    ·rfl
    simp only [go_sem, Nat.reduceEqDiff, k0, k1, k4, k5, k6, k7, w1]
    exact ⟨hil, g7 H (Nat.le_refl _) p3, by simp, true, v5, _, rfl, rfl, g2, g3, kp.put ha hil (As q2)⟩
 ·rintro s ⟨kH, k1, k4, b, wv, ol, k6, k5, ks, ko, kp⟩
  have hole := kp.le
  simp only [go_sem, Nat.reduceEqDiff, k1, k4, k5, k6]
  cases b with
  | true =>
   simp only [go_sem, Nat.reduceEqDiff, k1, k4, k5, k6]
   rw [← (kp.end_ ha).1 rfl]
   exact ⟨kH, ks, .inr ko⟩
  | false =>
   obtain ⟨v3, H3, d1, d2, d3, d4, d5, d6, d7⟩ := ks.oneI2 (m := m) x ko kH.length_le hw (by omega)
   simp only [go_sem, Nat.reduceEqDiff, k1, k4, k5, k6]
   rw [d1]
   rotate_left
   ·rfl
   ·rfl
   ·rfl
   simp only [go_sem, k1, k4, k5, k6]
   rw [← (kp.end_ ha).2 rfl]
   exact ⟨d7 H (Nat.le_refl _) kH, d2, .inr d3⟩
end
theorem cL {H : Hp} {v : Value} {l : List ByteArray} {a : ByteArray} (hl : Dz H v l) : Aw EE 98 [v, .string a] H (.bool (Pn a l)) := by
 have h := f98 (h := a) hl
 rwa [show (l.any fun x => decide (x = a)) = Pn a l by rw [Bool.eq_iff_iff, Uq, List.any_eq_true]; simp] at h
theorem G6 {s x : ByteArray} {k : Int} (h : Ck s k = some x) : Fc s 115 = true ∧ Js s = k ∧ x = Wo s := by
 unfold Ck at h
 split at h
 ·rename_i h2
  cases h
  exact ⟨C1.2 ⟨h2.1, h2.2.1⟩, h2.2.2, rfl⟩
 ·cases h
theorem Sd {s : ByteArray} (h : Fc s 115 = true) : Ck s (Js s) = some (Wo s) := by
 unfold Ck
 have h2 := C1.1 h
 rw [if_pos ⟨h2.1, h2.2, rfl⟩]
 rfl
structure CI (kt : List ByteArray) (kk : List Int) (T : List ByteArray) (K : List Int) : Prop where
 nd : T.Nodup
 gd : ∀ t ∈ T, Ej t = true ∧ (∃ u ∈ kt, Le t u) ∧ Oi kt kk t
 kn : ∀ t ∈ kt, t ∈ T
 asc : Po K
 kin : ∀ n ∈ kk, n ∈ K
 kgd : ∀ n ∈ K, (n ∈ kk ∨ Oj n ∈ T) ∧ Eu n = true
section
variable {kt : List ByteArray} {kk : List Int} {T : List ByteArray} {K : List Int}
theorem CI.lenT (h : CI kt kk T K) (hK : Zn kt kk) : T.length ≤ Xe := by
 have h1 : ∀ x ∈ T, x ∈ cP kt := fun x hx => by
  obtain ⟨_, ⟨u, hu, hi⟩, _⟩ := h.gd x hx
  obtain ⟨j, hj, e⟩ := List.mem_iff_getElem.1 hu
  have := (hK.2.2.1 j hj u (by rw [B7 hj, e])).1
  exact Zi hu (Ei.1 this).2.1 hi
 have h2 := Ju h.nd h1
 rw [Zy] at h2
 have h4 := Nat.mul_le_mul_right (901 * 901) hK.1
 exact C8 h2 h4
theorem Po.nodup {l : List Int} (h : Po l) : l.Nodup := by
 unfold List.Nodup
 exact List.Pairwise.imp (fun h e => by omega) h
theorem CI.lenK (h : CI kt kk T K) (hK : Zn kt kk) : K.length ≤ 40 + Xe := by
 have h1 : ∀ n ∈ K, n ∈ kk ++ T.map Js := fun n hn => by
  obtain ⟨h2, h3⟩ := h.kgd n hn
  rcases h2 with h2 | h2
  ·exact List.mem_append_left _ h2
  ·exact List.mem_append_right _ (List.mem_map.2 ⟨_, h2, (Lr h3).2.2.2⟩)
 have h2 := Ju h.asc.nodup h1
 rw [List.length_append, List.length_map] at h2
 have := h.lenT hK
 have := hK.2.1
 omega
theorem CI.size (h : CI kt kk T K) : ∀ t ∈ T, t.size ≤ 4611686018427387904 := fun t ht => by
 have := (Ei.1 (h.gd t ht).1).2.1
 omega
theorem CI.term {p : ByteArray} (h : CI kt kk T K) (h1 : Ej p = true) (h2 : ∃ u ∈ kt, Le p u) (h3 : Oi kt kk p) (h4 : p ∉ T) : CI kt kk (T ++ [p]) K := by
 refine ⟨List.nodup_append.2 ⟨h.nd, by simp, fun a ha b hb e => ?_⟩, fun t ht => ?_, fun t ht => List.mem_append_left _ (h.kn t ht), h.asc, h.kin, fun n hn => ?_⟩
 ·rw [List.mem_singleton] at hb
  subst hb; subst e
  exact h4 ha
 ·rcases Lh ht with ht | ht
  ·exact h.gd t ht
  ·rw [List.mem_singleton] at ht
   subst ht
   exact ⟨h1, h2, h3⟩
 ·obtain ⟨a, b⟩ := h.kgd n hn
  exact ⟨a.imp id fun a => List.mem_append_left _ a, b⟩
theorem CI.key {t : ByteArray} (h : CI kt kk T K) (ht : t ∈ T) (hb : Fc t 107 = true) : CI kt kk T (W5 (K ++ [Js t])) := by
 obtain ⟨k1, k2⟩ := mC hb
 refine ⟨h.nd, h.gd, h.kn, We _, fun n hn => ?_, fun n hn => ?_⟩
 ·rw [Lg]
  exact List.mem_append_left _ (h.kin n hn)
 ·rw [Lg] at hn
  rcases Lh hn with hn | hn
  ·exact h.kgd n hn
  ·rw [List.mem_singleton] at hn
   subst hn
   exact ⟨.inr (by rw [← k2]; exact ht), k1⟩
theorem CI.part {t p : ByteArray} (h : CI kt kk T K) (ht : t ∈ T) (hp : p ∈ (A5 t).getD []) (hn : p ∉ T) : CI kt kk (T ++ [p]) K := by
 have h108 : Fc t 108 = true := by
  cases hb : Fc t 108 with
  | true => rfl
  | false => rw [Fk hb] at hp; simp at hp
 obtain ⟨a, b⟩ := Mp h108 hp
 obtain ⟨_, ⟨u, hu, hi⟩, hs⟩ := h.gd t ht
 exact h.term a ⟨u, hu, b.trans hi⟩ (.part hs hp) hn
theorem CI.open_ {t x : ByteArray} {n : Int} (h : CI kt kk T K) (ht : t ∈ T) (hn : n ∈ K) (ho : Ck t n = some x) (hx : x ∉ T) : CI kt kk (T ++ [x]) K := by
 obtain ⟨a, b, rfl⟩ := G6 ho
 obtain ⟨c, d⟩ := Li a
 obtain ⟨_, ⟨u, hu, hi⟩, hs⟩ := h.gd t ht
 refine h.term c ⟨u, hu, d.trans hi⟩ ?_ hx
 subst b
 rcases (h.kgd _ hn).1 with h1 | h1
 ·exact .opened hs a h1
 ·exact .shown hs a (h.gd _ h1).2.2
theorem CI.beg (hK : Zn kt kk) : CI kt kk kt kk := by
 refine ⟨?_, fun t ht => ⟨?_, ⟨t, ht, Le.refl t⟩, .known ht⟩, fun t ht => ht, ?_, fun n hn => hn, fun n hn => ⟨.inl hn, hK.2.2.2.1 n hn⟩⟩
 ·refine List.pairwise_iff_getElem.2 fun i j hi hj hij e => ?_
  have := (hK.2.2.1 j hj _ (B7 hj)).2
  exact this (by rw [← e]; exact List.mem_take_iff_getElem.2 ⟨i, by omega, rfl⟩)
 ·obtain ⟨j, hj⟩ := List.getElem?_of_mem ht
  exact (hK.2.2.1 j (Em hj).1 t hj).1
 ·have hn := hK.2.2.2.2
  refine List.pairwise_iff_getElem.2 fun i j hi hj hij => ?_
  have nb : ∀ i, (hi : i + 1 < kk.length) → kk[i]'(by omega) < kk[i + 1] := fun i hi => hn i hi _ _ (B7 (by omega)) (B7 hi)
  have key : ∀ (d i : Nat), (hj : i + 1 + d < kk.length) → kk[i]'(by omega) < kk[i + 1 + d] := by
   intro d
   induction d with
   | zero => intro i hj; exact nb i hj
   | succ d ih => intro i hj; exact Int.lt_trans (ih i (by omega)) (nb (i + 1 + d) hj)
  obtain ⟨d, rfl⟩ : ∃ d, j = i + 1 + d := ⟨j - (i + 1), by omega⟩
  exact key d i hj
def Cl (T : List ByteArray) (K : List Int) (t : ByteArray) : Prop := (Fc t 107 = true → Js t ∈ K) ∧ (∀ p ∈ (A5 t).getD [], p ∈ T) ∧ ∀ n ∈ K, ∀ x, Ck t n = some x → x ∈ T
theorem CI.all (h : CI kt kk T K) (hc : ∀ t ∈ T, Cl T K t) (t : ByteArray) : t ∈ T ↔ Oi kt kk t := by
 refine ⟨fun ht => (h.gd t ht).2.2, fun hs => ?_⟩
 induction hs with
 | known ht => exact h.kn _ ht
 | part _ hp ih => exact (hc _ ih).2.1 _ hp
 | @opened t _ hb hk ih => exact (hc _ ih).2.2 _ (h.kin _ hk) _ (Sd hb)
 | @shown t _ hb _ ih ih2 =>
  obtain ⟨e1, e2, e3, e4⟩ := Lr (Yg hb)
  have h2 := (hc _ ih2).1 (C1.2 ⟨e1, e3⟩)
  rw [e4] at h2
  exact (hc _ ih).2.2 _ h2 _ (Sd hb)
structure Gw (T0 : List ByteArray) (K0 : List Int) (T : List ByteArray) (K : List Int) : Prop where
 t : T0 <+: T
 k : K = K0 ∨ K0.length < K.length
theorem Gw.refl (T : List ByteArray) (K : List Int) : Gw T K T K := ⟨List.prefix_refl _, .inl rfl⟩
theorem Gw.same {T0 : List ByteArray} {K0 : List Int} (h : Gw T0 K0 T K) (h1 : T.length = T0.length) (h2 : K.length = K0.length) : T = T0 ∧ K = K0 := by
 refine ⟨(h.t.eq_of_length_le (by omega)).symm, ?_⟩
 rcases h.k with h | h
 ·exact h
 ·omega
theorem Gw.term {T0 : List ByteArray} {K0 : List Int} (h : Gw T0 K0 T K) (p : ByteArray) : Gw T0 K0 (T ++ [p]) K := ⟨h.t.trans (Eg), h.k⟩
theorem Th {K : List Int} (ha : Po K) (x : Int) : W5 (K ++ [x]) = K ∧ x ∈ K ∨ K.length < (W5 (K ++ [x])).length := by
 by_cases hx : x ∈ K
 ·exact .inl ⟨(Rv ha fun y => by
   rw [List.mem_append, List.mem_singleton]
   exact ⟨fun h => .inl h, fun h => by rcases h with h | h; exact h; subst h; exact hx⟩).symm, hx⟩
 ·refine .inr ?_
  have := Ju (l := x :: K) (S := W5 (K ++ [x])) (List.nodup_cons.2 ⟨hx, ha.nodup⟩) fun y hy => by
   rw [Lg]
   rcases List.mem_cons.1 hy with rfl | hy
   ·simp
   ·exact List.mem_append_left _ hy
  simp only [List.length_cons] at this
  omega
theorem Gw.key {T0 : List ByteArray} {K0 : List Int} (h : Gw T0 K0 T K) (ha : Po K) (x : Int) : Gw T0 K0 T (W5 (K ++ [x])) := by
 refine ⟨h.t, ?_⟩
 rcases Th ha x with ⟨e, _⟩ | e
 ·rw [e]; exact h.k
 ·rcases h.k with h2 | h2
  ·subst h2; exact .inr e
  ·exact .inr (by omega)
end
structure TK (N : Nat) (H : Hp) (tv kv : Value) (T : List ByteArray) (K : List Int) : Prop where
 ts : Dz H tv T
 ks : Bu H kv K
 ot : Ao N tv
 ok : Ao N kv
 ap : ∀ j ∈ Ae tv, j ∉ Ae kv
theorem TK.pre {N : Nat} {H H' : Hp} {tv kv : Value} {T : List ByteArray} {K : List Int} (h : TK N H tv kv T K) (hp : H <+: H') : TK N H' tv kv T K := ⟨h.ts.pre hp, h.ks.pre hp, h.ot, h.ok, h.ap⟩
theorem TK.term {m : Md} {N : Nat} {H : Hp} {tv kv : Value} {T : List ByteArray} {K : List Int} (p : ByteArray) (h : TK N H tv kv T K) (hN : N ≤ H.length) (hw : ∀ id, N ≤ id → m.wr id = true) (hb : T.length ≤ 100000010) :
  ∃ v' H', (∀ (s : St) (x y : X), s.H = H → Av s.ρ x = some tv → ex s.ρ y = .vs 1 [.string p] → Ce m s 1 16 x y = some (.val v', { s with H := H' })) ∧ TK N H' v' kv (T ++ [p]) K ∧ (∀ H0 : Hp, H0.length ≤ N → H0 <+: H → H0 <+: H') ∧
   ∀ {w : Value} {l : List ByteArray}, Dz H w l → (∀ j ∈ Ae w, j ∉ Ae tv) → Dz H' w l ∧ ∀ j ∈ Ae w, j ∉ Ae v' := by
 obtain ⟨v', H', a1, a2, a3, a4, a5, a6, a7⟩ := h.ts.oneS2 (m := m) p h.ot hN hw hb
 refine ⟨v', H', a1, ⟨a2, h.ks.aside (fun j hj hm => h.ap j hm hj) a4, a3, h.ok, fun j hj hm => ?_⟩, a7, fun {w l} hs hd => ⟨hs.aside hd a4, fun j hj hm => ?_⟩⟩
 ·rcases a6 j hj with h2 | h2
  ·exact h.ap j h2 hm
  ·have := h.ks.ids j hm
   omega
 ·rcases a6 j hm with h2 | h2
  ·exact hd j hj h2
  ·have := hs.ids j hj
   omega
def SeR (kt : List ByteArray) (kk : List Int) (H : Hp) (r : Value) (H' : Hp) : Prop := ∃ tv kv T K, r = .tuple #[tv, kv] ∧ H <+: H' ∧ Dz H' tv T ∧ Bu H' kv K ∧ (∀ t ∈ T, Ej t = true) ∧ T.length ≤ Xe ∧ K.length ≤ 40 + Xe ∧ Ao H.length kv
theorem pB {m : Md} {H : Hp} {vt vk : Value} {kt : List ByteArray} {kk : List Int} (ht : Dz H vt kt) (hk : Bu H vk kk) (hK : Zn kt kk) (hw : Wr m H) : Ci EE m 201 [.agg #[vt, vk]] H fun r H' => SeR kt kk H r H' := by
 refine Bt rfl rfl wX (by simp [gT]) ?_
 have hcap := oG
 have h60 := hK.1
 have h40 := hK.2.1
 have p0 : H <+: H ++ [[]] := Eg
 have s0 : Dz (H ++ [[]]) (.slice (some ⟨H.length, 0, some 1⟩) 0 (0 * 1)) [] := Jb
 have o0 : Ao H.length (.slice (some ⟨H.length, 0, some 1⟩) 0 (0 * 1)) := .inr ⟨_, _, _, _, rfl, Nat.le_refl _⟩
 generalize hwv : Value.slice (some ⟨H.length, 0, some 1⟩) 0 (0 * 1) = wv0 at s0 o0
 obtain ⟨tv, H1, a1, a2, a3, a4, a5, a6, a7⟩ := s0.join (m := m) (N := H.length) (bytes := 16) (ht.pre p0) (fun _ => rfl) (by omega) o0 p0.length_le hw (by unfold Ev.room; simp; omega) (by unfold Ev.room; simp; omega)
 have p1 := a7 H (Nat.le_refl _) p0
 have a2 : Dz H1 tv kt := by simpa using a2
 have p2 : H1 <+: H1 ++ [[]] := Eg
 have s1 : Bu (H1 ++ [[]]) (.slice (some ⟨H1.length, 0, some 1⟩) 0 (0 * 1)) [] := Eb
 have o1 : Ao H1.length (.slice (some ⟨H1.length, 0, some 1⟩) 0 (0 * 1)) := .inr ⟨_, _, _, _, rfl, Nat.le_refl _⟩
 generalize hwv2 : Value.slice (some ⟨H1.length, 0, some 1⟩) 0 (0 * 1) = wv1 at s1 o1
 obtain ⟨kv, H2, b1, b2, b3, b4, b5, b6, b7⟩ := s1.join (m := m) (N := H1.length) (bytes := 8) ((hk.pre p1).pre p2) (fun _ => rfl) (by omega) o1 p2.length_le (hw.pre p1) (by unfold Ev.room; simp; omega) (by unfold Ev.room; simp; omega)
 have p3 := b7 H1 (Nat.le_refl _) p2
 have b2 : Bu H2 kv kk := by simpa using b2
 have tk0 : TK H.length H2 tv kv kt kk := ⟨a2.pre p3, b2, a3, b3.mono p1.length_le, fun j hj hm => by have := a2.ids j hj; have := Bc b3 j hm; omega⟩
 simp only [go_sem, Nat.reduceEqDiff, reduceCtorEq, gT, ht.vc, hk.vc, Ba, hwv]
 rw [a1]
 rotate_left
 ·rfl
 ·rfl
 ·rfl
 simp only [go_sem, Nat.reduceEqDiff, reduceCtorEq, ht.vc, hk.vc, Ba, hwv2]
 rw [b1]
 rotate_left
 ·rfl
 ·rfl
 ·rfl
 simp only [go_sem, Nat.reduceEqDiff, reduceCtorEq]
 refine Ak 200000000 (fun r s => H <+: s.H ∧ ∃ tv kv T K, s.ρ 4 = .val tv ∧ s.ρ 5 = .val kv ∧ TK H.length s.H tv kv T K ∧ CI kt kk T K ∧ r ≤ T.length + K.length) (fun _ => False) ?_ ?_ ?_
 ·exact ⟨p1.trans p3, tv, kv, kt, kk, by simp [Ah], by simp [Ah], tk0, CI.beg hK, Nat.zero_le _⟩
 ·rintro r s hr ⟨kH, tv, kv, T0, K0, k4, k5, tk, ci, hle⟩
  have lT0 := ci.lenT hK
  have lK0 := ci.lenK hK
  simp only [go_sem, Nat.reduceEqDiff, reduceCtorEq, k4, k5, tk.ts.len, tk.ks.len]
  refine Ak Xe (fun i s => H <+: s.H ∧ s.ρ 6 = .val (.int .i64 T0.length) ∧ s.ρ 7 = .val (.int .i64 K0.length) ∧ s.ρ 8 = .val (.int .i64 i) ∧ ∃ tv kv T K, s.ρ 4 = .val tv ∧ s.ρ 5 = .val kv ∧ TK H.length s.H tv kv T K ∧ CI kt kk T K ∧ Gw T0 K0 T K ∧ i ≤ T.length ∧ (T.length = T0.length → K.length = K0.length → ∀ j t, j < i → T0[j]? = some t → Cl T0 K0 t))
   (fun s => H <+: s.H ∧ s.ρ 6 = .val (.int .i64 T0.length) ∧ s.ρ 7 = .val (.int .i64 K0.length) ∧ ∃ tv kv T K, s.ρ 4 = .val tv ∧ s.ρ 5 = .val kv ∧ TK H.length s.H tv kv T K ∧ CI kt kk T K ∧ Gw T0 K0 T K ∧ (T.length = T0.length → K.length = K0.length → ∀ t ∈ T0, Cl T0 K0 t)) ?_ ?_ ?_
  ·exact ⟨kH, by simp [Ah], by simp [Ah], by simp [Ah], tv, kv, T0, K0, by simp [Ah, k4], by simp [Ah, k5], tk, ci, Gw.refl _ _, Nat.zero_le _, fun _ _ j t hj => by omega⟩
  ·clear k4 k5 tk ci kH
   rintro i s hi ⟨kH, k6, k7, k8, tv, kv, T, K, k4, k5, tk, ci, gw, hiT, hdone⟩
   have lT := ci.lenT hK
   have lK := ci.lenK hK
   have kw := hw.pre kH
   simp only [go_sem, Nat.reduceEqDiff, reduceCtorEq, k4, k5, k6, k7, k8, tk.ts.len]
   cases q1 : decide ((i : Int) < (T.length : Int)) <;> simp only [go_sem, Nat.reduceEqDiff, reduceCtorEq, k4, k5, k6, k7, k8, q1]
   ·have : i = T.length := by have := Au q1; omega
    subst this
    refine ⟨kH, tv, kv, T, K, rfl, rfl, tk, ci, gw, fun h1 h2 t ht => ?_⟩
    obtain ⟨j, hj⟩ := List.getElem?_of_mem ht
    exact hdone h1 h2 j t (by have := (Em hj).1; omega) hj
   have hil : i < T.length := by have := As q1; omega
   have w1 := Ab ((i : Int) + 1) (by omega) (by omega)
   obtain ⟨t, hti⟩ : ∃ t, T[i]? = some t := ⟨_, B7 hil⟩
   have htm := List.mem_of_getElem? hti
   have hz := ci.size t htm
   obtain ⟨id, p, o, ho, hre, hia⟩ := tk.ts.str hti
   have a214 := Ax (Zg (H := s.H) (s := t) hz)
   simp only [go_sem, Nat.reduceEqDiff, reduceCtorEq, k4, k5, k6, k7, k8, hia, ho, hre]
   refine Aa (fun m' h => (Zg (H := s.H) (s := t) hz) m' h) rfl kw fun r1 H1 ⟨e1, e2⟩ => ?_
   subst e1; subst e2
   simp only [go_sem, Nat.reduceEqDiff, reduceCtorEq, k4, k5, k6, k7, k8, List.getElem?_toArray, Bd]
   -- the keys
   refine Bq (fun s1 => H <+: s1.H ∧ s1.ρ 4 = .val tv ∧ s1.ρ 6 = .val (.int .i64 T0.length) ∧ s1.ρ 7 = .val (.int .i64 K0.length) ∧ s1.ρ 8 = .val (.int .i64 i) ∧ ∃ kv K, s1.ρ 5 = .val kv ∧ TK H.length s1.H tv kv T K ∧ CI kt kk T K ∧ Gw T0 K0 T K ∧ (T.length = T0.length → K.length = K0.length → (∀ j t, j < i → T0[j]? = some t → Cl T0 K0 t) ∧ (Fc t 107 = true → Js t ∈ K0))) (fun hb => ?_) (fun hb => ?_) ?_
   ·have hif : (if Fc t 107 = true then Js t else 0) = Js t := if_pos hb
    have hK2 : K.length ≤ 100000000 := by omega
    simp only [go_sem, Nat.reduceEqDiff, reduceCtorEq, k4, k5, k6, k7, k8, hif]
    refine Aa (fun m' h => oI tk.ks ci.asc hK2 h) rfl kw fun r2 H2 ⟨p2, s2, o2⟩ => ?_
    have n0 := kH.length_le
    simp only [go_sem, Nat.reduceEqDiff, reduceCtorEq, k4, k5, k6, k7, k8]
    have o2' : Ao H.length r2 ∧ ∀ j ∈ Ae tv, j ∉ Ae r2 := by
     rcases o2 with rfl | o2
     ·exact ⟨tk.ok, tk.ap⟩
     ·exact ⟨o2.mono n0, fun j hj hm => by have := tk.ts.ids j hj; have := Bc o2 j hm; omega⟩
    refine ⟨kH.trans p2, r2, _, rfl, ⟨tk.ts.pre p2, s2, tk.ot, o2'.1, o2'.2⟩, ci.key htm hb, gw.key ci.asc _, fun h1 h2 => ?_⟩
    have hs := (gw.key ci.asc (Js t)).same h1 h2
    have hKl : K.length = K0.length := by
     rcases Th ci.asc (Js t) with ⟨e, _⟩ | e
     ·rw [e] at h2; exact h2
     ·rcases gw.k with g | g
      ·rw [g]
      ·omega
    refine ⟨hdone h1 hKl, fun _ => ?_⟩
    rw [← hs.2, Lg]
    simp
   ·simp only [go_sem, Nat.reduceEqDiff, reduceCtorEq, k4, k5, k6, k7, k8]
    exact ⟨kH, kv, K, rfl, tk, ci, gw, fun h1 h2 => ⟨hdone h1 h2, fun h => by rw [hb] at h; cases h⟩⟩
   ·clear tk ci gw hdone k4 k5 k6 k7 k8 hia ho hre lK
    have kH0 := kH
    clear kH kw
    rintro s1 ⟨kH, k4, k6, k7, k8, kv, K, k5, tk, ci, gw, hdone⟩
    have lK := ci.lenK hK
    have kw := hw.pre kH
    obtain ⟨id, p, o, ho, hre, hia⟩ := tk.ts.str hti
    simp only [go_sem, Nat.reduceEqDiff, reduceCtorEq, k4, k5, k6, k7, k8, hia, ho, hre]
    refine Aa (fun m' h => Rl (s := t) hz h) rfl kw fun r3 H3 ⟨pv, e3, p3, sp, op⟩ => ?_
    subst e3
    have tk3 := tk.pre p3
    have op : Ao s1.H.length pv := op
    have dP : ∀ j ∈ Ae pv, j ∉ Ae tv := fun j hj hm => by have := tk.ts.ids j hm; have := Bc op j hj; omega
    generalize hps : (A5 t).getD [] = ps at sp
    have n3 : H <+: H3 := kH.trans p3
    have hroomP := sp.room
    simp only [go_sem, Nat.reduceEqDiff, reduceCtorEq, k4, k5, k6, k7, k8, List.getElem?_toArray, Bd]
    refine Ak ps.length (fun j s2 => H <+: s2.H ∧ s2.ρ 5 = .val kv ∧ s2.ρ 6 = .val (.int .i64 T0.length) ∧ s2.ρ 7 = .val (.int .i64 K0.length) ∧ s2.ρ 8 = .val (.int .i64 i) ∧ s2.ρ 11 = .val pv ∧ s2.ρ 13 = .val (.int .i64 j) ∧ Dz s2.H pv ps ∧ ∃ tv T, s2.ρ 4 = .val tv ∧ TK H.length s2.H tv kv T K ∧ CI kt kk T K ∧ Gw T0 K0 T K ∧ T[i]? = some t ∧ (∀ j ∈ Ae pv, j ∉ Ae tv) ∧ (T.length = T0.length → K.length = K0.length → (∀ j t, j < i → T0[j]? = some t → Cl T0 K0 t) ∧ (Fc t 107 = true → Js t ∈ K0) ∧ ∀ p ∈ ps.take j, p ∈ T0))
     (fun s2 => H <+: s2.H ∧ s2.ρ 5 = .val kv ∧ s2.ρ 6 = .val (.int .i64 T0.length) ∧ s2.ρ 7 = .val (.int .i64 K0.length) ∧ s2.ρ 8 = .val (.int .i64 i) ∧ ∃ tv T, s2.ρ 4 = .val tv ∧ TK H.length s2.H tv kv T K ∧ CI kt kk T K ∧ Gw T0 K0 T K ∧ T[i]? = some t ∧ (T.length = T0.length → K.length = K0.length → (∀ j t, j < i → T0[j]? = some t → Cl T0 K0 t) ∧ (Fc t 107 = true → Js t ∈ K0) ∧ ∀ p ∈ ps, p ∈ T0)) ?_ ?_ ?_
    ·exact ⟨n3, by simp [Ah, k5], by simp [Ah, k6], by simp [Ah, k7], by simp [Ah, k8], by simp [Ah], by simp [Ah], sp, tv, T, by simp [Ah, k4], tk3, ci, gw, hti, dP, fun h1 h2 => ⟨(hdone h1 h2).1, (hdone h1 h2).2, by simp⟩⟩
    ·rintro j s2 hj ⟨sH, m5, m6, m7, m8, m11, m13, sps, tv, T, m4, tk, ci, gw, hti, dP, hdone⟩
     have lT := ci.lenT hK
     simp only [go_sem, Nat.reduceEqDiff, reduceCtorEq, m4, m5, m6, m7, m8, m11, m13, sps.len]
     cases q2 : decide ((j : Int) < (ps.length : Int)) <;> simp only [go_sem, Nat.reduceEqDiff, reduceCtorEq, m4, m5, m6, m7, m8, m11, m13, q2]
     ·have : j = ps.length := by have := Au q2; omega
      subst this
      rw [List.take_length] at hdone
      exact ⟨sH, tv, T, rfl, tk, ci, gw, hti, hdone⟩
     have hjl : j < ps.length := by have := As q2; omega
     have w2 := Ab ((j : Int) + 1) (by omega) (by omega)
     obtain ⟨x, hx⟩ : ∃ x, ps[j]? = some x := ⟨_, B7 hjl⟩
     have hxm : x ∈ (A5 t).getD [] := by rw [hps]; exact List.mem_of_getElem? hx
     have htk : ps.take (j + 1) = ps.take j ++ [x] := by rw [List.take_succ_eq_append_getElem hjl]; congr; exact (Em hx).2
     obtain ⟨id2, p2, o2, ho2, hre2, hia2⟩ := sps.str hx
     have a98 := Ax (cL (a := x) tk.ts)
     simp only [go_sem, Nat.reduceEqDiff, reduceCtorEq, m4, m5, m6, m7, m8, m11, m13, hia2, ho2, hre2, a98, hw.pre sH]
     cases q3 : Pn x T <;> simp only [go_sem, Nat.reduceEqDiff, reduceCtorEq, m4, m5, m6, m7, m8, m11, m13, hia2, ho2, hre2, w2]
     ·have hn := Yp.1 q3
      obtain ⟨v3, H4, c1, c2, c3, c4⟩ := tk.term (m := m) x sH.length_le hw (by omega)
      rw [c1]
      rotate_left
      ·rfl
      ·rfl
      ·rfl
      simp only [go_sem, Nat.reduceEqDiff, reduceCtorEq, m4, m5, m6, m7, m8, m11, m13, w2]
      obtain ⟨d1, d2⟩ := c4 sps dP
      refine ⟨hjl, c3 H (Nat.le_refl _) sH, by simp, d1, v3, _, rfl, c2, ci.part (List.mem_of_getElem? hti) hxm hn, gw.term x, by rw [List.getElem?_append_left (Em hti).1]; exact hti, d2, fun h1 => ?_⟩
      have := gw.t.length_le
      rw [List.length_append, List.length_singleton] at h1
      omega
     ·have hn := Uq.1 q3
      refine ⟨hjl, sH, by simp, sps, tv, T, rfl, tk, ci, gw, hti, dP, fun h1 h2 => ⟨(hdone h1 h2).1, (hdone h1 h2).2.1, fun y hy => ?_⟩⟩
      rw [htk] at hy
      rcases Lh hy with hy | hy
      ·exact (hdone h1 h2).2.2 y hy
      ·rw [List.mem_singleton] at hy
       subst hy
       rw [← (gw.same h1 h2).1]
       exact hn
    ·clear tk tk3 ci gw hdone k4 k5 k6 k7 k8 hia ho hre sp dP hti htm hiT hil lT
     rintro s2 ⟨sH, k5, k6, k7, k8, tv, T, k4, tk, ci, gw, hti, hdone⟩
     simp only [go_sem, Nat.reduceEqDiff, reduceCtorEq, k4, k5, k6, k7, k8]
     refine Ak K.length (fun j s3 => H <+: s3.H ∧ s3.ρ 5 = .val kv ∧ s3.ρ 6 = .val (.int .i64 T0.length) ∧ s3.ρ 7 = .val (.int .i64 K0.length) ∧ s3.ρ 8 = .val (.int .i64 i) ∧ s3.ρ 14 = .val (.int .i64 j) ∧ ∃ tv T, s3.ρ 4 = .val tv ∧ TK H.length s3.H tv kv T K ∧ CI kt kk T K ∧ Gw T0 K0 T K ∧ T[i]? = some t ∧ (T.length = T0.length → K.length = K0.length → (∀ j t, j < i → T0[j]? = some t → Cl T0 K0 t) ∧ (Fc t 107 = true → Js t ∈ K0) ∧ (∀ p ∈ ps, p ∈ T0) ∧ ∀ n ∈ K.take j, ∀ x, Ck t n = some x → x ∈ T0))
      (fun s3 => H <+: s3.H ∧ s3.ρ 5 = .val kv ∧ s3.ρ 6 = .val (.int .i64 T0.length) ∧ s3.ρ 7 = .val (.int .i64 K0.length) ∧ s3.ρ 8 = .val (.int .i64 i) ∧ ∃ tv T, s3.ρ 4 = .val tv ∧ TK H.length s3.H tv kv T K ∧ CI kt kk T K ∧ Gw T0 K0 T K ∧ T[i]? = some t ∧ (T.length = T0.length → K.length = K0.length → (∀ j t, j < i → T0[j]? = some t → Cl T0 K0 t) ∧ (Fc t 107 = true → Js t ∈ K0) ∧ (∀ p ∈ ps, p ∈ T0) ∧ ∀ n ∈ K, ∀ x, Ck t n = some x → x ∈ T0)) ?_ ?_ ?_
     ·exact ⟨sH, by simp [Ah, k5], by simp [Ah, k6], by simp [Ah, k7], by simp [Ah, k8], by simp [Ah], tv, T, by simp [Ah, k4], tk, ci, gw, hti, fun h1 h2 => ⟨(hdone h1 h2).1, (hdone h1 h2).2.1, (hdone h1 h2).2.2, by simp⟩⟩
     ·clear tk ci gw hdone k4 k5 k6 k7 k8 hti sH
      rintro j s3 hj ⟨sH, m5, m6, m7, m8, m14, tv, T, m4, tk, ci, gw, hti, hdone⟩
      have lT := ci.lenT hK
      simp only [go_sem, Nat.reduceEqDiff, reduceCtorEq, m4, m5, m6, m7, m8, m14, tk.ks.len]
      cases q2 : decide ((j : Int) < (K.length : Int)) <;> simp only [go_sem, Nat.reduceEqDiff, reduceCtorEq, m4, m5, m6, m7, m8, m14, q2]
      ·have : j = K.length := by have := Au q2; omega
       subst this
       rw [List.take_length] at hdone
       exact ⟨sH, tv, T, rfl, tk, ci, gw, hti, hdone⟩
      have hjl : j < K.length := by have := As q2; omega
      have w2 := Ab ((j : Int) + 1) (by omega) (by omega)
      obtain ⟨n, hn⟩ : ∃ n, K[j]? = some n := ⟨_, B7 hjl⟩
      have hnm := List.mem_of_getElem? hn
      have htk : K.take (j + 1) = K.take j ++ [n] := by rw [List.take_succ_eq_append_getElem hjl]; congr; exact (Em hn).2
      obtain ⟨id2, p2, o2, ho2, hre2, hia2⟩ := tk.ts.str hti
      obtain ⟨id3, p3, o3, ho3, hre3, hia3⟩ := tk.ks.int hn
      have a215 := Ax (Yu (H := s3.H) (k := n) hz)
      have kw := hw.pre sH
      have grow : ∀ {T' : List ByteArray} {y : ByteArray}, (T' ++ [y]).length = T0.length → T0 <+: T' → False := fun {T' y} h1 h2 => by
       have := h2.length_le
       rw [List.length_append, List.length_singleton] at h1
       omega
      refine Af ?_
      simp only [go_sem, Nat.reduceEqDiff, reduceCtorEq, m4, m5, m6, m7, m8, m14, hia2, ho2, hre2, hia3, ho3, hre3, a215, kw]
      cases ho : Ck t n with
      | none =>
       unfold eJ
       simp only [go_sem, Nat.reduceEqDiff, reduceCtorEq, m4, m5, m6, m7, m8, m14, List.getElem?_toArray, Bd]
       refine ⟨by rfl, ?_⟩
       simp only [go_sem, Nat.reduceEqDiff, reduceCtorEq, m4, m5, m6, m7, m8, m14, w2]
       refine ⟨hjl, sH, by simp, tv, T, rfl, tk, ci, gw, hti, fun h1 h2 => ⟨(hdone h1 h2).1, (hdone h1 h2).2.1, (hdone h1 h2).2.2.1, fun n' hn' x hx => ?_⟩⟩
       rw [htk] at hn'
       rcases Lh hn' with hn' | hn'
       ·exact (hdone h1 h2).2.2.2 n' hn' x hx
       ·rw [List.mem_singleton] at hn'
        subst hn'
        rw [ho] at hx
        cases hx
      | some x =>
       unfold eJ
       have a98 := Ax (cL (a := x) tk.ts)
       simp only [go_sem, Nat.reduceEqDiff, reduceCtorEq, m4, m5, m6, m7, m8, m14, List.getElem?_toArray, Bd]
       refine ⟨by rfl, ?_⟩
       simp only [go_sem, Nat.reduceEqDiff, reduceCtorEq, m4, m5, m6, m7, m8, m14, a98, kw]
       cases q3 : Pn x T <;> simp only [go_sem, Nat.reduceEqDiff, reduceCtorEq, m4, m5, m6, m7, m8, m14, w2]
       ·have hnx := Yp.1 q3
        obtain ⟨v3, H4, c1, c2, c3, c4⟩ := tk.term (m := m) x sH.length_le hw (by omega)
        rw [c1]
        rotate_left
        ·rfl
        ·rfl
        ·rfl
        simp only [go_sem, Nat.reduceEqDiff, reduceCtorEq, m4, m5, m6, m7, m8, m14, w2]
        exact ⟨hjl, c3 H (Nat.le_refl _) sH, by simp, v3, _, rfl, c2, ci.open_ (List.mem_of_getElem? hti) hnm ho hnx, gw.term x, by rw [List.getElem?_append_left (Em hti).1]; exact hti, fun h1 => (grow h1 gw.t).elim⟩
       ·have hnx := Uq.1 q3
        refine ⟨hjl, sH, by simp, tv, T, rfl, tk, ci, gw, hti, fun h1 h2 => ⟨(hdone h1 h2).1, (hdone h1 h2).2.1, (hdone h1 h2).2.2.1, fun n' hn' y hy => ?_⟩⟩
        rw [htk] at hn'
        rcases Lh hn' with hn' | hn'
        ·exact (hdone h1 h2).2.2.2 n' hn' y hy
        ·rw [List.mem_singleton] at hn'
         subst hn'
         rw [ho] at hy
         cases hy
         rw [← (gw.same h1 h2).1]
         exact hnx
     ·clear tk ci gw hdone k4 k5 k6 k7 k8 hti sH
      rintro s3 ⟨sH, k5, k6, k7, k8, tv, T, k4, tk, ci, gw, hti, hdone⟩
      have lT := ci.lenT hK
      have hil := (Em hti).1
      simp only [go_sem, Nat.reduceEqDiff, reduceCtorEq, k4, k5, k6, k7, k8, w1]
      refine ⟨by omega, sH, by simp, tv, kv, T, K, rfl, rfl, tk, ci, gw, by omega, fun h1 h2 j u hj hu => ?_⟩
      obtain ⟨d1, d2, d3, d4⟩ := hdone h1 h2
      by_cases e : j = i
      ·subst e
       obtain ⟨e1, e2⟩ := gw.same h1 h2
       rw [e1, hu] at hti
       cases hti
       rw [e2] at d4
       exact ⟨d2, by rw [hps]; exact d3, d4⟩
      ·exact d1 j u (by omega) hu
  ·clear k4 k5 tk ci kH
   rintro s ⟨kH, k6, k7, tv, kv, T, K, k4, k5, tk, ci, gw, hdone⟩
   have lT := ci.lenT hK
   have lK := ci.lenK hK
   have g1 := gw.t.length_le
   simp only [go_sem, Nat.reduceEqDiff, reduceCtorEq, k4, k5, k6, k7, tk.ts.len]
   have hsz : ∀ t ∈ T, t.size ≤ 4611686018427387904 := ci.size
   cases q1 : decide ((T.length : Int) = (T0.length : Int)) <;> simp only [go_sem, Nat.reduceEqDiff, reduceCtorEq, k4, k5, k6, k7, q1, tk.ks.len]
   ·have := Au q1
    refine ⟨by omega, kH, tv, kv, T, K, rfl, rfl, tk, ci, ?_⟩
    rcases gw.k with g | g
    ·rw [g]; omega
    ·omega
   have e1 : T.length = T0.length := by have := As q1; omega
   cases q2 : decide ((K.length : Int) = (K0.length : Int)) <;> simp only [go_sem, Nat.reduceEqDiff, k4, k5, k6, k7, q2]
   ·have := Au q2
    refine ⟨by omega, kH, tv, kv, T, K, rfl, rfl, tk, ci, ?_⟩
    rcases gw.k with g | g
    ·subst g; omega
    ·omega
   have e2 : K.length = K0.length := by have := As q2; omega
   obtain ⟨rfl, rfl⟩ := gw.same e1 e2
   exact ⟨tv, kv, T, K, rfl, kH, tk.ts, tk.ks, fun t ht => (ci.gd t ht).1, lT, lK, tk.ok⟩
 ·intro s h
  exact h.elim
theorem Hi {E : Hb} {m : Md} {f : Nat} {cf : CF} {vs : List Value} {H : Hp} {Q : Value → Hp → Prop} (ht : E.tr f = true) (hp : E.prim f = none) (hf : E.fns f = some cf) (hl : vs.length ≤ cf.nt)
  (h : ∀ m' : Md, (∀ id, m'.wr id = m.wr id) → go E m' [.c cf.body] { ρ := Cb vs, gn := 1, H := H } (Xl cf.res true H Q)) : Ci E m f vs H Q :=
 Ut ht hp hf hl (h _ fun _ => rfl)
def eU (n : Int) : List Value := [.int .u8 n]
abbrev fL (H : Hp) (v : Value) (l : List Int) : Prop := Sl (En eU) 1 H v l
theorem Sl.byte {H : Hp} {v : Value} {l : List Int} (h : fL H v l) {i : Nat} {a : Int} (hi : l[i]? = some a) : ∃ id p o, H[id]? = some o ∧ o[p]? = some (.int .u8 a) ∧
  ∀ (s : St) (x y : X), Av s.ρ x = some v → Av s.ρ y = some (.int .i64 i) → B4 s 1 x y = some (.val (.pointer (some ⟨id, p, some o.length⟩)), s) := by
 obtain ⟨id, p, o, ho, hr, hp, hia⟩ := h.elem hi
 unfold En at hr
 exact ⟨id, p, o, ho, by simpa [eU] using Al hr (j := 0) (by omega), hia⟩
def K6 (H : Hp) (c : Value) (id : Nat) : Prop := c = .pointer (some ⟨id, 0, some 3⟩) ∧ ∃ b i h bl, H[id]? = some [b, .int .i64 i, .int .i64 h] ∧ fL H b bl ∧ 0 ≤ i ∧ ∀ j ∈ Ae b, j < id
def CS (H H' : Hp) (c : Value) (id : Nat) : Prop := K6 H' c id ∧ (∀ j, j ≠ id → H'[j]? = H[j]?) ∧ H'.length = H.length
def CX (H H' : Hp) (c : Value) (id : Nat) : Prop := K6 H' c id ∧ (∀ j, j < H.length → j ≠ id → H'[j]? = H[j]?) ∧ H.length ≤ H'.length
theorem CS.trans {H H' H'' : Hp} {c : Value} {id : Nat} (h : CS H H' c id) (k : CS H' H'' c id) : CS H H'' c id := ⟨k.1, fun j hj => (k.2.1 j hj).trans (h.2.1 j hj), k.2.2.trans h.2.2⟩
theorem CS.cx {H H' : Hp} {c : Value} {id : Nat} (h : CS H H' c id) : CX H H' c id := ⟨h.1, fun j _ hj => h.2.1 j hj, by have := h.2.2; omega⟩
theorem CX.trans {H H' H'' : Hp} {c : Value} {id : Nat} (h : CX H H' c id) (k : CX H' H'' c id) : CX H H'' c id := ⟨k.1, fun j hl hj => (k.2.1 j (by have := h.2.2; omega) hj).trans (h.2.1 j hl hj), C8 h.2.2 k.2.2⟩
theorem CX.refl {H : Hp} {c : Value} {id : Nat} (h : K6 H c id) : CX H H c id := ⟨h, fun _ _ _ => rfl, Nat.le_refl _⟩
theorem Sl.cs {α : Type} {R : α → List Value → Prop} {esz : Nat} {H H' : Hp} {v c : Value} {l : List α} {id : Nat} (h : Sl R esz H v l) (hc : CS H H' c id) (hid : id ∉ Ae v) : Sl R esz H' v l :=
 h.frame (fun _ _ _ h => h) fun i off e ln cap hv => hc.2.1 i (fun e2 => hid (by subst hv; subst e2; simp [Ae]))
theorem Sl.cx {α : Type} {R : α → List Value → Prop} {esz : Nat} {H H' : Hp} {v c : Value} {l : List α} {id : Nat} (h : Sl R esz H v l) (hc : CX H H' c id) (hid : id ∉ Ae v) : Sl R esz H' v l :=
 h.frame (fun _ _ _ h => h) fun i off e ln cap hv => hc.2.1 i (h.ids i (by subst hv; simp [Ae])) (fun e2 => hid (by subst hv; subst e2; simp [Ae]))
theorem K6.keep {H H' : Hp} {c : Value} {id : Nat} (h : K6 H c id) (hk : ∀ j, j ≤ id → H'[j]? = H[j]?) : K6 H' c id := by
 obtain ⟨rfl, b, i, g, bl, hid, hb, hi, hnb⟩ := h
 exact ⟨rfl, b, i, g, bl, by rw [hk id (Nat.le_refl _)]; exact hid, hb.frame (fun _ _ _ h => h) (fun x off e ln cap hv => hk x (Nat.le_of_lt (hnb x (by subst hv; simp [Ae])))), hi, hnb⟩
theorem K6.lt {H : Hp} {c : Value} {id : Nat} (h : K6 H c id) : id < H.length := by
 obtain ⟨rfl, b, i, g, bl, hid, _⟩ := h
 exact (Em hid).1
theorem K6.pre {H H' : Hp} {c : Value} {id : Nat} (h : K6 H c id) (hp : H <+: H') : K6 H' c id := h.keep fun j hj => Ed hp (by have := h.lt; omega)
theorem CX.ofPre {H H' : Hp} {c : Value} {id : Nat} (h : K6 H c id) (hp : H <+: H') : CX H H' c id := ⟨h.pre hp, fun j hj _ => Ed hp hj, hp.length_le⟩
theorem CX.own {H H1 H' : Hp} {c : Value} {id : Nat} (h : CX H H1 c id) (hid : id < H.length) (hk : ∀ j, j < H.length → H'[j]? = H1[j]?) (hl : H1.length ≤ H'.length) : CX H H' c id :=
 ⟨h.1.keep fun j hj => hk j (by omega), fun j hj hne => (hk j hj).trans (h.2.1 j hj hne), C8 h.2.2 hl⟩
theorem CX.cut {H H' : Hp} {c : Value} {id : Nat} (h : CX H H' c id) (hid : id < H.length) : CS H (H'.take H.length) c id := by
 have hl : (H'.take H.length).length = H.length := by rw [List.length_take]; have := h.2.2; omega
 refine ⟨h.1.keep fun j hj => by rw [List.getElem?_take, if_pos (by omega)], fun j hj => ?_, hl⟩
 by_cases hjl : j < H.length
 ·rw [List.getElem?_take, if_pos hjl]; exact h.2.1 j hjl hj
 ·rw [List.getElem?_eq_none (by omega), List.getElem?_eq_none (by omega)]
theorem CS.cut {H H' : Hp} {c : Value} {id : Nat} (h : CS H H' c id) : CS H (H'.take H.length) c id := by
 rw [List.take_of_length_le (Nat.le_of_eq h.2.2)]; exact h
theorem CX.pre {H0 H H' : Hp} {c : Value} {id : Nat} (h : CX H H' c id) (hp : H0 <+: H) (hid : H0.length ≤ id) : H0 <+: H' := by
 refine List.prefix_iff_getElem?.2 fun j hj => ?_
 have := hp.length_le
 rw [h.2.1 j (by omega) (by omega), Ed hp hj, B7 hj]
theorem Rq (a : Int) : 0 ≤ IntKind.i64.wrap ((BitVec.ofInt IntKind.i64.bits a &&& BitVec.ofInt IntKind.i64.bits 255).toNat : Int) ∧ IntKind.i64.wrap ((BitVec.ofInt IntKind.i64.bits a &&& BitVec.ofInt IntKind.i64.bits 255).toNat : Int) ≤ 255 := by
 have h : (BitVec.ofInt IntKind.i64.bits a &&& BitVec.ofInt IntKind.i64.bits 255).toNat ≤ 255 := by
  rw [BitVec.toNat_and]
  refine C8 (Nat.and_le_right) ?_
  decide
 rw [Ab _ (by omega) (by omega)]
 omega
theorem Um {m : Md} {H : Hp} {c : Value} {id : Nat} (hc : K6 H c id) (hw : m.wr id = true) : Ci EE m 133 [c] H fun r H' => ∃ x : Int, r = .int .i64 x ∧ 0 ≤ x ∧ x ≤ 255 ∧ CS H H' c id := by
 refine Hi rfl rfl yD (by simp [jX]) fun m' hm => ?_
 have hw : m'.wr id = true := (hm id).trans hw
 obtain ⟨rfl, b, i, h, bl, hid, hb, hi, hnb0⟩ := hc
 have hnb : id ∉ Ae b := fun hm => by have := hnb0 _ hm; omega
 have hidl := (Em hid).1
 have hset : ∀ q, (H.set id q)[id]? = some q := fun q => List.getElem?_set_self hidl
 have hroom := hb.room
 simp only [go_sem, Nat.reduceEqDiff, reduceCtorEq, jX, hid, hw]
 refine Af ?_
 simp only [go_sem, Nat.reduceEqDiff, reduceCtorEq, hset, Int.reduceLT, Bool.false_eq_true]
 refine ⟨by rfl, ?_⟩
 refine Af ?_
 simp only [go_sem, Nat.reduceEqDiff, reduceCtorEq, hset, Int.reduceLT]
 simp only [go_sem, Nat.reduceEqDiff, reduceCtorEq, hb.len, Int.reduceLT]
 refine ⟨by rfl, ?_⟩
 have done : ∀ (i' h' : Int) (q : List Value), 0 ≤ i' → q = [b, .int .i64 i', .int .i64 h'] → CS H (H.set id q) (.pointer (some ⟨id, 0, some 3⟩)) id := fun i' h' q hi' hq => by
  subst hq
  exact ⟨⟨rfl, b, i', h', bl, hset _, hb.other hnb, hi', hnb0⟩, fun j hj => List.getElem?_set_ne (fun e => hj e.symm), by simp⟩
 have hcut : ∀ q : List Value, (H.set id q).take H.length = H.set id q := fun q => List.take_of_length_le (by simp)
 refine Bf.intro (fun c1 => ?_) (fun c1 => ?_)
 ·obtain ⟨k, rfl⟩ : ∃ k : Nat, i = k := ⟨i.toNat, by omega⟩
  have hk : k < bl.length := by have := As c1; omega
  obtain ⟨idb, pb, ob, hob, hrb, hiab⟩ := (hb.other (r := [b, .int .i64 k, .int .i64 (IntKind.i64.wrap (IntKind.i64.wrap (h * 6364136223846793005) + 1442695040888963407))]) hnb).byte (B7 hk)
  simp only [go_sem, Nat.reduceEqDiff, reduceCtorEq]
  refine Af ?_
  simp only [go_sem, Nat.reduceEqDiff, reduceCtorEq, hset, hiab, hob, hrb, Int.reduceLT]
  refine ⟨by rfl, ?_⟩
  simp only [go_sem, Nat.reduceEqDiff, Nat.reduceLeDiff, hset, hw, List.set_set, Ab ((k : Int) + 1) (by omega) (by omega), hcut]
  exact ⟨_, rfl, (Rq _).1, (Rq _).2, done _ _ _ (by omega) rfl⟩
 ·simp only [go_sem, Nat.reduceEqDiff, hcut]
  exact ⟨_, rfl, (Rq _).1, (Rq _).2, done _ _ _ hi rfl⟩
def Yr (H : Hp) (c : Value) (id : Nat) (n : Int) (r : Value) (H' : Hp) : Prop := ∃ x : Int, r = .int .i64 x ∧ 0 ≤ x ∧ (0 < n → x < n) ∧ (n ≤ 0 → x = 0) ∧ CS H H' c id
theorem Wk {m : Md} {H : Hp} {c : Value} {id : Nat} {n : Int} (hc : K6 H c id) (hw : m.wr id = true) : Ci EE m 93 [c, .int .i64 n] H fun r H' => Yr H c id n r H' := by
 refine Hi rfl rfl k93 (by simp [c93]) fun m' hm => ?_
 have hw : m'.wr id = true := (hm id).trans hw
 simp only [go_sem, Nat.reduceEqDiff, c93]
 refine Bf.intro (fun q1 => ?_) (fun q1 => ?_) <;> simp only [go_sem, Nat.reduceEqDiff]
 ·exact ⟨0, rfl, by omega, fun h => by have := As q1; omega, fun _ => rfl, hc, fun _ _ => rfl, rfl⟩
 have n0 : 0 < n := by have := Au q1; omega
 have e3 : n ≠ 0 := by omega
 have fin : ∀ {x : Int} {H' : Hp}, 0 ≤ x → CS H H' c id → Yr H c id n (.int .i64 (Int.tmod x n)) (H'.take H.length) := fun {x H'} hx h => ⟨_, rfl, Int.tmod_nonneg _ hx, fun _ => by rw [Int.tmod_eq_emod_of_nonneg hx]; exact Int.emod_lt_of_pos _ n0, fun h => by omega, h.cut⟩
 refine Bf.intro (fun q2 => ?_) (fun q2 => ?_) <;> simp only [go_sem, Nat.reduceEqDiff]
 ·refine Aq (Um hc hw) rfl fun r H1 ⟨x, e, hx0, hx1, hs⟩ => ?_
  subst e
  simp only [go_sem, Nat.reduceEqDiff, e3]
  exact fin hx0 hs
 refine Aq (Um hc hw) rfl fun r H1 ⟨x, e, hx0, hx1, hs1⟩ => ?_
 subst e
 simp only [go_sem, Nat.reduceEqDiff]
 refine Aq (Um hs1.1 hw) rfl fun r H2 ⟨y, e, hy0, hy1, hs2⟩ => ?_
 subst e
 simp only [go_sem, Nat.reduceEqDiff]
 refine Aq (Um hs2.1 hw) rfl fun r H3 ⟨z, e, hz0, hz1, hs3⟩ => ?_
 subst e
 simp only [go_sem, Nat.reduceEqDiff]
 refine Aq (Um hs3.1 hw) rfl fun r H4 ⟨u, e, hu0, hu1, hs4⟩ => ?_
 subst e
 have a1 := Ab (x * 16777216) (by omega) (by omega)
 have a2 := Ab (y * 65536) (by omega) (by omega)
 have a3 := Ab (x * 16777216 + y * 65536) (by omega) (by omega)
 have a4 := Ab (z * 256) (by omega) (by omega)
 have a5 := Ab (x * 16777216 + y * 65536 + z * 256) (by omega) (by omega)
 have a6 := Ab (x * 16777216 + y * 65536 + z * 256 + u) (by omega) (by omega)
 simp only [go_sem, Nat.reduceEqDiff, e3, a1, a2, a3, a4, a5, a6]
 exact fin (by omega) (((hs1.trans hs2).trans hs3).trans hs4)
theorem wH {m : Md} {H : Hp} {c : Value} {id : Nat} {n : Int} (hc : K6 H c id) (hw : m.wr id = true) : Ci EE m 92 [c, .int .i64 n] H fun r H' => ∃ b : Bool, r = .bool b ∧ CS H H' c id := by
 refine Hi rfl rfl k92 (by simp [c92]) fun m' hm => ?_
 have hw : m'.wr id = true := (hm id).trans hw
 simp only [go_sem, Nat.reduceEqDiff, c92]
 refine Aq (Wk hc hw) rfl fun r H1 ⟨x, e, hx0, hx1, hx2, hs⟩ => ?_
 subst e
 simp only [go_sem]
 exact ⟨_, rfl, hs.cut⟩
theorem f52 {m : Md} {H : Hp} {v : Value} {l : List Int} (hl : fL H v l) : Ci EE m 52 [v] H fun r H' => K6 H' r H.length ∧ H <+: H' ∧ H'.length = H.length + 1 := by
 refine Bt rfl rfl k52 (by simp [tV]) ?_
 have hroom := hl.room
 simp only [go_sem, Nat.reduceEqDiff, reduceCtorEq, tV, hl.len]
 refine Ak 4000 (fun i s => s.H = H ∧ s.ρ 0 = .val v ∧ s.ρ 4 = .val (.int .i64 i) ∧ ∃ h : Int, s.ρ 3 = .val (.int .i64 h)) (fun s => s.H = H ∧ s.ρ 0 = .val v ∧ ∃ h : Int, s.ρ 3 = .val (.int .i64 h)) ?_ ?_ ?_
 ·exact ⟨rfl, by simp [Ah, Cb], by simp [Ah], _, by simp [Ah]; rfl⟩
 ·rintro i s hi ⟨hH, h0, h4, h, h3⟩
  simp only [go_sem, Nat.reduceEqDiff, reduceCtorEq, h0, h3, h4, hl.len]
  refine Bf.intro (fun c1 => ?_) (fun c1 => ?_) <;> simp only [go_sem, Nat.reduceEqDiff, reduceCtorEq, c1, h0, h3, h4]
  ·refine Bf.intro (fun c2 => ?_) (fun c2 => ?_) <;> simp only [go_sem, Nat.reduceEqDiff, reduceCtorEq, c1, c2, h0, h3, h4]
   ·have hi2 : i < l.length := by have := As c1; omega
    have hi3 : i < 4000 := by have := As c2; omega
    obtain ⟨id, p, o, ho, hr, hia⟩ := hl.byte (B7 hi2)
    simp only [go_sem, Nat.reduceEqDiff, reduceCtorEq, h0, h3, h4, hia, hH, ho, hr, Ab ((i : Int) + 1) (by omega) (by omega)]
    exact ⟨hi3, by simp, _, rfl⟩
   ·exact ⟨hH, h, rfl⟩
  ·exact ⟨hH, h, rfl⟩
 ·rintro s ⟨hH, h0, h, h3⟩
  simp only [go_sem, Nat.reduceEqDiff, Nat.reduceLeDiff, h0, h3, hH, hl.vc, Fb, Ba, B5]
  refine ⟨⟨rfl, v, 0, h, l, by simp, hl.pre (Eg), by omega, hl.ids⟩, Eg, by simp⟩
theorem f17 {H : Hp} {v : Value} {l : List Int} (hl : fL H v l) : Aw EE 17 [v] H (.bool (decide ((l.length : Int) > 1048576))) := by
 refine Ag rfl rfl Kn (by simp [c17]) rfl fun m hw => ?_
 simp only [go_sem, Nat.reduceEqDiff, c17, hl.len]
theorem Sl.intD {H : Hp} {v : Value} {l : List Int} (h : Sl (En eI) 1 H v l) {i : Nat} {a : Int} (hi : l[i]? = some a) : ∃ id p o, H[id]? = some o ∧ o[p]? = some (.int .i64 a) ∧
  ∀ (s : St) (x y : X), Av s.ρ x = some v → Av s.ρ y = some (.int .i64 i) → B4 s 1 x y = some (.val (.pointer (some ⟨id, p, some o.length⟩)), s) := by
 obtain ⟨id, p, o, ho, hr, hp, hia⟩ := h.elem hi
 unfold En at hr
 exact ⟨id, p, o, ho, by simpa [eI] using Al hr (j := 0) (by omega), hia⟩
theorem Vq {H : Hp} (l : List Int) (hl : l.length ≤ 9223372036854775807) : Sl (En eI) 1 (H ++ [l.map (Value.int .i64)]) (.slice (some ⟨H.length, 0, some 1⟩) l.length l.length) l :=
 .inr ⟨H.length, 0, l.length, l.map (Value.int .i64), rfl, by simp, by simp, by simp, hl, fun i a hi => by
  unfold En eI
  refine List.ext_getElem? fun j => ?_
  rw [A3]
  by_cases hj : j < 1
  ·have : j = 0 := by omega
   subst this
   rw [if_pos hj, List.getElem?_map, show 0 + i * 1 + 0 = i by omega, hi]
   rfl
  ·rw [if_neg hj, List.getElem?_eq_none (by simp; omega)]⟩
theorem f94 {m : Md} {H : Hp} {c v : Value} {id : Nat} {l : List Int} (hc : K6 H c id) (hw : m.wr id = true) (hl : Sl (En eI) 1 H v l) (h0 : 0 < l.length) (hid : id ∉ Ae v) : Ci EE m 94 [c, v] H fun r H' => ∃ x ∈ l, r = .int .i64 x ∧ CS H H' c id := by
 refine Hi rfl rfl k94 (by simp [tF]) fun m' hm => ?_
 have hw : m'.wr id = true := (hm id).trans hw
 have hroom := hl.room
 simp only [go_sem, Nat.reduceEqDiff, tF, hl.len]
 refine Aq (Wk hc hw) rfl fun r H1 ⟨x, e, hx0, hx1, hx2, hs⟩ => ?_
 subst e
 obtain ⟨k, rfl⟩ : ∃ k : Nat, x = k := ⟨x.toNat, by omega⟩
 have hk : k < l.length := by have := hx1 (by omega); omega
 obtain ⟨id2, p, o, ho, hr, hia⟩ := (hl.cs hs hid).intD (B7 hk)
 simp only [go_sem, Nat.reduceEqDiff, reduceCtorEq, hia, ho, hr]
 exact ⟨_, List.getElem_mem hk, rfl, hs.cut⟩
theorem cN {s : St} {x y : X} {b : ByteArray} {k : Nat} (hk : k ≤ b.size) (hx : Av s.ρ x = some (.string b)) (hy : Av s.ρ y = some (.int .i64 k)) : C2 s x none (some y) = some (.val (.string (b.extract 0 k)), s) := by
 unfold C2
 rw [hx]
 simp only [J7, hy]
 rw [if_pos ⟨by omega, by omega, by omega⟩]
 rfl
theorem P7 {s : St} {x y : X} {b : ByteArray} {k : Nat} (hk : k ≤ b.size) (hx : Av s.ρ x = some (.string b)) (hy : Av s.ρ y = some (.int .i64 k)) : C2 s x (some y) none = some (.val (.string (b.extract k b.size)), s) := by
 unfold C2
 rw [hx]
 simp only [J7, hy]
 rw [if_pos ⟨by omega, by omega, by omega⟩]
 rfl
theorem iW (z : Int) : ∃ b : Nat, IntKind.u8.wrap z = (b : Int) ∧ b < 256 := by
 refine ⟨(IntKind.u8.wrap z).toNat, ?_, ?_⟩
 ·simp [IntKind.wrap, IntKind.bits, IntKind.signed]
  omega
 ·simp [IntKind.wrap, IntKind.bits, IntKind.signed]
  omega
theorem uO : ¬ ((2 : Int) = 0) := by decide
theorem vQ : ¬ ((4 : Int) = 0) := by decide
theorem Wh {N : Nat} {v : Value} (h : Ao N v) : ∀ j ∈ Ae v, N ≤ j := fun j hj => by
 rcases h with rfl | ⟨id, e, ln, cap, rfl, hid⟩
 ·simp [Ae] at hj
 ·simp [Ae] at hj; omega
theorem oX {m : Md} {H : Hp} {c : Value} {id : Nat} {most : Int} (hc : K6 H c id) (h0 : 0 ≤ most) (h1 : most ≤ 1000) (hw0 : Wr m H) (hw : m.wr id = true) : Ci EE m 151 [c, .int .i64 most] H fun r H' => ∃ s, r = .string s ∧ (s.size : Int) ≤ most ∧ CS H H' c id := by
 refine Hi rfl rfl vD (by simp [iL]) fun m' hm => ?_
 have hw : m'.wr id = true := (hm id).trans hw
 have hw0 : Wr m' H := fun j hj => (hm j).trans (hw0 j hj)
 have hidl := hc.lt
 have p0 : H <+: H ++ [[]] := Eg
 simp only [go_sem, Nat.reduceEqDiff, iL, Ba]
 refine Aq (Wk (hc.pre p0) hw) rfl fun r H1 ⟨st, e, hs0, hs1, _, cs1⟩ => ?_
 subst e
 simp only [go_sem, Nat.reduceEqDiff, Ab (most + 1) (by omega) (by omega)]
 refine Aq (Wk cs1.1 hw) rfl fun r H2 ⟨k0, e, hk0, hk1, _, cs2⟩ => ?_
 subst e
 obtain ⟨k, rfl⟩ : ∃ k : Nat, k0 = k := ⟨k0.toNat, by omega⟩
 have hk := hk1 (by omega)
 have csA := cs1.trans cs2
 have own0 : My (H ++ [[]]) (.slice (some ⟨H.length, 0, some 1⟩) 0 (0 * 1)) [] := Jk
 have ownH2 : My H2 (.slice (some ⟨H.length, 0, some 1⟩) 0 (0 * 1)) [] := own0.cs csA (by simp [Ae]; omega)
 have cxA : CX H H2 c id := (CX.ofPre hc p0).trans csA.cx
 simp only [go_sem, Nat.reduceEqDiff]
 refine Fq (fun n t => t.ρ 0 = .val c ∧ t.ρ 6 = .val (.int .i64 st) ∧ t.ρ 7 = .val (.int .i64 n) ∧ CX H t.H c id ∧ ∃ wv l, t.ρ 5 = .val wv ∧ My t.H wv l ∧ Ao H.length wv ∧ (∀ b ∈ l, b < 256) ∧ (l.length : Int) + n ≤ most)
  (fun t => CX H t.H c id ∧ ∃ wv l, t.ρ 5 = .val wv ∧ My t.H wv l ∧ Ao H.length wv ∧ (∀ b ∈ l, b < 256) ∧ (l.length : Int) ≤ most) k ?_ ?_ ?_
 ·exact ⟨by simp [Ah, Cb], by simp [Ah], by simp [Ah], cxA, _, [], by simp [Ah], ownH2, .inr ⟨_, _, _, _, rfl, Nat.le_refl _⟩, by simp, by simp; omega⟩
 ·rintro n t ⟨k0, k6, k7, kc, wv, l, k5, ks, ko, kb, kl⟩
  simp only [go_sem, Nat.reduceEqDiff, k0, k5, k6, k7]
  refine Bf.intro (fun q => ?_) (fun q => ?_) <;> simp only [go_sem, Nat.reduceEqDiff, k0, k5, k6, k7]
  rotate_left
  ·exact ⟨kc, wv, l, rfl, ks, ko, kb, by have := Au q; omega⟩
  have hn : 0 < n := by have := As q; omega
  refine Aq (Um kc.1 hw) rfl fun r H3 ⟨x, e, hx0, hx1, hs⟩ => ?_
  subst e
  have kc3 := kc.trans hs.cx
  have ks3 : My H3 wv l := ks.cs hs (fun h => by have := Wh ko id h; omega)
  simp only [go_sem, Nat.reduceEqDiff, k0, k5, k6, k7]
  refine Bq (fun t' => t'.H = H3 ∧ t'.ρ 0 = .val c ∧ t'.ρ 5 = .val wv ∧ t'.ρ 6 = .val (.int .i64 st) ∧ t'.ρ 7 = .val (.int .i64 n) ∧ ∃ y : Int, t'.ρ 8 = .val (.int .i64 y) ∧ 0 ≤ y ∧ y ≤ 255) (fun q1 => ?_) (fun q1 => ?_) fun t' ⟨jH, j0, j5, j6, j7, y, j8, hy0, hy1⟩ => ?_
  ·simp only [go_sem, Nat.reduceEqDiff, k0, k5, k6, k7, uO]
   refine ⟨_, rfl, Int.tmod_nonneg _ hx0, ?_⟩
   have := Int.tmod_eq_emod_of_nonneg (b := 2) hx0
   omega
  ·simp only [go_sem, Nat.reduceEqDiff, k0, k5, k6, k7]
   exact ⟨_, rfl, hx0, hx1⟩
  simp only [go_sem, Nat.reduceEqDiff, j0, j5, j6, j7, j8]
  refine Bq (fun t' => t'.H = H3 ∧ t'.ρ 0 = .val c ∧ t'.ρ 5 = .val wv ∧ t'.ρ 6 = .val (.int .i64 st) ∧ t'.ρ 7 = .val (.int .i64 n) ∧ ∃ y : Int, t'.ρ 8 = .val (.int .i64 y) ∧ 0 ≤ y ∧ y ≤ 255) (fun q1 => ?_) (fun q1 => ?_) fun t'' ⟨iH, i0, i5, i6, i7, z, i8, hz0, hz1⟩ => ?_
  ·have e4 := Int.tmod_eq_emod_of_nonneg (b := 4) hy0
   simp only [go_sem, Nat.reduceEqDiff, j0, j5, j6, j7, j8, jH, vQ, Ab (97 + Int.tmod y 4) (by omega) (by omega)]
   exact ⟨_, rfl, by omega, by omega⟩
  ·simp only [go_sem, Nat.reduceEqDiff, j0, j5, j6, j7, j8, jH]
   exact ⟨_, rfl, hy0, hy1⟩
  obtain ⟨z, rfl⟩ : ∃ z' : Nat, z = z' := ⟨z.toNat, by omega⟩
  obtain ⟨v2, H4, e1, e2, e3, e4, e5, e6, e7⟩ := ks3.oneN (m := m') z ko (by have := kc3.2.2; omega) hw0 (by omega)
  have kc4 : CX H H4 c id := kc3.own hidl (fun j hj => e4 j (by have := kc3.2.2; omega) (fun h => by have := Wh ko j h; omega)) e5
  simp only [go_sem, Nat.reduceEqDiff, i0, i5, i6, i7, i8, iH, Lj (z : Int) (by omega) (by omega)]
  rw [e1]
  rotate_left
  ·rfl
  ·rfl
  ·rfl
  simp only [go_sem, Nat.reduceEqDiff, i0, i5, i6, i7, i8, Ab ((n : Int) - 1) (by omega) (by omega)]
  refine ⟨n - 1, by omega, by congr 2; omega, kc4, v2, _, rfl, e2, e3, fun b hb => ?_, by simp; omega⟩
  rcases Lh hb with h | h
  ·exact kb b h
  ·rw [List.mem_singleton] at h; subst h; omega
 ·rintro t ⟨kc, wv, l, k5, ks, ko, kb, kl⟩
  have hb := ks.b2s kb
  simp only [go_sem, k5]
  rw [hb]
  rotate_left
  ·rfl
  ·rfl
  simp only [go_sem]
  exact ⟨_, rfl, by rw [Cf]; exact kl, kc.cut hidl⟩
theorem Wx {H : Hp} {a : Nat} : My (H ++ [[.int .u8 (a : Int)]]) (.slice (some ⟨H.length, 0, some 1⟩) 1 (1 * 1)) [a] := .inr ⟨H.length, 0, 1, [.int .u8 (a : Int)], rfl, by simp, by simp, by simp, by simp, fun i x hi => by
 cases i with
 | zero => simp at hi; subst hi; rfl
 | succ i => simp at hi⟩
theorem vN {b : ByteArray} {i : Nat} (h : i < b.size) : ∃ c, b[i]? = some c := ⟨_, getElem?_pos b i h⟩
theorem qR {s : St} {x y : X} {b : ByteArray} {i : Nat} {c : UInt8} (hc : b[i]? = some c) (hx : Av s.ρ x = some (.string b)) (hy : Av s.ρ y = some (.int .i64 i)) : Ky s x y = some (.val (.int .u8 c.toNat), s) := by
 unfold Ky
 rw [hx, hy]
 simp only [Int.toNat_natCast, hc]
 rw [if_pos (by omega)]
 rfl
theorem oB {m : Md} {H : Hp} {c : Value} {id : Nat} {s : ByteArray} (hc : K6 H c id) (hs : s.size ≤ 1000000000) (hw0 : Wr m H) (hw : m.wr id = true) : Ci EE m 135 [c, .string s] H fun r H' => ∃ t, r = .string t ∧ t.size ≤ s.size + 3 ∧ CS H H' c id := by
 refine Hi rfl rfl zH (by simp [iD]) fun m' hm => ?_
 have hw : m'.wr id = true := (hm id).trans hw
 have hw0 : Wr m' H := fun j hj => (hm j).trans (hw0 j hj)
 have hidl := hc.lt
 simp only [go_sem, Nat.reduceEqDiff, iD, Cn]
 refine Bf.intro (fun q0 => ?_) (fun q0 => ?_) <;> simp only [go_sem, Nat.reduceEqDiff, Cn]
 ·refine Aq (oX hc (by omega) (by omega) hw0 hw) rfl fun r H1 ⟨t, e, ht, cs1⟩ => ?_
  subst e
  simp only [go_sem, Nat.reduceEqDiff]
  exact ⟨t, rfl, by omega, cs1.cut⟩
 have hsp : 0 < s.size := by have := Au q0; omega
 refine Aq (Wk hc hw) rfl fun r H1 ⟨k0, e, hk0, hk1, _, cs1⟩ => ?_
 subst e
 obtain ⟨k, rfl⟩ : ∃ k : Nat, k0 = k := ⟨k0.toNat, by omega⟩
 have hk : k < s.size := by have := hk1 (by omega); omega
 simp only [go_sem, Nat.reduceEqDiff]
 refine Aq (Wk cs1.1 hw) rfl fun r H2 ⟨w, e, hw1, hw2, _, cs2⟩ => ?_
 subst e
 have csA := cs1.trans cs2
 have nA : H2.length = H.length := csA.2.2
 have hw2 : Wr m' H2 := fun j hj => hw0 j (by omega)
 have hto := fun {t : St} {x y : X} => cN (s := t) (x := x) (y := y) (b := s) (k := k) (by omega)
 have hfrom := fun {t : St} {x y : X} => P7 (s := t) (x := x) (y := y) (b := s) (k := k) (by omega)
 have hfrom1 : ∀ {t : St} {x y : X}, Av t.ρ x = some (.string s) → Av t.ρ y = some (.int .i64 ((k : Int) + 1)) → C2 t x (some y) none = some (.val (.string (s.extract (k + 1) s.size)), t) := fun hx hy => P7 (k := k + 1) (by omega) hx (by rw [hy]; rfl)
 have z1 : (s.extract 0 k).size = k := by rw [ByteArray.size_extract]; omega
 have z2 : (s.extract k s.size).size = s.size - k := by rw [ByteArray.size_extract]; omega
 have z3 : (s.extract (k + 1) s.size).size = s.size - (k + 1) := by rw [ByteArray.size_extract]; omega
 have zo : ∀ b : Nat, (Bo [b]).size = 1 := fun b => Cf _
 have wk := Ab ((k : Int) + 1) (by omega) (by omega)
 have a1 : (s.extract 0 k).size + (s.extract (k + 1) s.size).size ≤ 9223372036854775807 := by omega
 have a2 : ∀ b : Nat, (s.extract 0 k).size + (Bo [b]).size ≤ 9223372036854775807 := fun b => by rw [zo]; omega
 have a3 : ∀ b : Nat, (s.extract 0 k ++ Bo [b]).size + (s.extract k s.size).size ≤ 9223372036854775807 := fun b => by rw [ByteArray.size_append, zo]; omega
 have a4 : ∀ b : Nat, (s.extract 0 k ++ Bo [b]).size + (s.extract (k + 1) s.size).size ≤ 9223372036854775807 := fun b => by rw [ByteArray.size_append, zo]; omega
 simp only [go_sem, Nat.reduceEqDiff]
 refine Bf.intro (fun q1 => ?_) (fun q1 => ?_) <;> simp only [go_sem, Nat.reduceEqDiff]
 ·refine Af ?_
  simp only [go_sem, Nat.reduceEqDiff, hto, wk, hfrom1, a1]
  refine ⟨by rfl, ?_⟩
  exact ⟨_, rfl, by rw [ByteArray.size_append]; omega, csA.cut⟩
 refine Bf.intro (fun q2 => ?_) (fun q2 => ?_) <;> simp only [go_sem, Nat.reduceEqDiff]
 ·refine Af ?_
  simp only [go_sem, Nat.reduceEqDiff, hto]
  refine Ap (H := H2) rfl (fun m'' _ h2 _ => Um csA.1 (h2 id (by obtain ⟨rfl, _⟩ := hc; simp [Ae]) hw)) rfl hw2 fun r H3 ⟨x, e, hx0, hx1, cs3⟩ => ?_
  subst e
  obtain ⟨x, rfl⟩ : ∃ x' : Nat, x = x' := ⟨x.toNat, by omega⟩
  have hb := (Wx (H := H3) (a := x)).b2s (fun n hn => by simp at hn; omega)
  simp only [go_sem, Nat.reduceEqDiff, hto, Lj (x : Int) (by omega) (by omega)]
  rw [hb]
  rotate_left
  ·rfl
  ·rfl
  simp only [go_sem, Nat.reduceEqDiff, hfrom, a2, a3]
  refine ⟨by rfl, ?_⟩
  have csB := csA.trans cs3
  have hcx : CX H (H3 ++ [[.int .u8 (x : Int)]]) c id := csB.cx.trans (CX.ofPre csB.1 (Eg))
  exact ⟨_, rfl, by rw [ByteArray.size_append, ByteArray.size_append, zo]; omega, hcx.cut hidl⟩
 refine Bf.intro (fun q3 => ?_) (fun q3 => ?_) <;> simp only [go_sem, Nat.reduceEqDiff]
 ·simp only [go_sem, Nat.reduceEqDiff, hto]
  exact ⟨_, rfl, by omega, csA.cut⟩
 ·obtain ⟨ch, hch⟩ := vN hk
  have hix := fun {t : St} {x y : X} => qR (s := t) (x := x) (y := y) hch
  refine Af ?_
  simp only [go_sem, Nat.reduceEqDiff, hto, hix]
  refine Ap (H := H2) rfl (fun m'' _ h2 _ => Wk csA.1 (h2 id (by obtain ⟨rfl, _⟩ := hc; simp [Ae]) hw)) rfl hw2 fun r H3 ⟨x, e, hx0, hx1, hx2, cs3⟩ => ?_
  subst e
  simp only [go_sem, Nat.reduceEqDiff, hto, hix]
  generalize hg : IntKind.u8.wrap _ = g1
  obtain ⟨b, hb1, hb2⟩ : ∃ b : Nat, g1 = (b : Int) ∧ b < 256 := hg ▸ iW _
  subst hb1
  have hb := (Wx (H := H3) (a := b)).b2s (fun n hn => by simp at hn; omega)
  rw [hb]
  rotate_left
  ·rfl
  ·rfl
  simp only [go_sem, Nat.reduceEqDiff, hfrom1, wk, a2, a4]
  refine ⟨by rfl, ?_⟩
  have csB := csA.trans cs3
  have hcx : CX H (H3 ++ [[.int .u8 (b : Int)]]) c id := csB.cx.trans (CX.ofPre csB.1 (Eg))
  exact ⟨_, rfl, by rw [ByteArray.size_append, ByteArray.size_append, zo]; omega, hcx.cut hidl⟩
theorem Vz {m m2 : Md} (hn : m.nr = m2.nr) {s : St} {esz bytes : Nat} {x y : X} {v : Value} (hx : Av s.ρ x = some v) (h1 : ∀ id ∈ Ae v, m.wr id = true) (h2 : ∀ id ∈ Ae v, m2.wr id = true) : Ce m s esz bytes x y = Ce m2 s esz bytes x y := by
 unfold Ce
 rw [hx, hn]
 cases F8 s.H esz (ex s.ρ y) with
 | none => rfl
 | some p =>
  obtain ⟨n, cs⟩ := p
  cases v with
  | slice a len cap =>
   cases a with
   | none => cases len <;> cases cap <;> rfl
   | some a =>
    obtain ⟨id, off, sp⟩ := a
    have e1 := h1 id (by simp [Ae])
    have e2 := h2 id (by simp [Ae])
    cases sp with
    | none => rfl
    | some e => simp only [e1, e2]
  | _ => rfl
def Wb (m : Md) : Md := { wr := fun _ => true, nr := m.nr }
theorem yR {H : Hp} {n : Int} : A4 EE 152 [.int .i64 n] H fun r => ∃ s : ByteArray, r = .string s ∧ s.size ≤ 900 := by
 refine Ar rfl rfl pS (by simp [Tu]) fun m hw => ?_
 have a48 := Ax (f48 (H := H) (a := n) (b := 1) (c := 1000000))
 have a160 := Ax (Us (H := H) (n := n))
 have h7 := D0 n
 have hs : (⟨#[107]⟩ : ByteArray).size + (Bx n).size ≤ 9223372036854775807 := by rw [Mx]; omega
 simp only [go_sem, Nat.reduceEqDiff, Tu, a48, hw]
 refine Bf.intro (fun q1 => ?_) (fun q1 => ?_)
 ·simp only [go_sem, Nat.reduceEqDiff, a160, hw, hs]
  exact ⟨_, rfl, by rw [C6, Mx]; omega⟩
 ·simp only [go_sem]
  exact ⟨_, rfl, Nat.zero_le _⟩
def TmR (H : Hp) (c : Value) (id : Nat) (r : Value) (H' : Hp) : Prop := ∃ s : ByteArray, r = .string s ∧ s.size ≤ 900 ∧ CX H H' c id
theorem Gu (k : Int) (t : ByteArray) : (Kk k t).size ≤ 900 := by
 unfold Kk
 split
 ·exact Fx _
 ·simp
theorem zP {c : Value} {id : Nat} : ∀ (d : Nat) {m : Md} {H : Hp}, K6 H c id → Wr m H → m.wr id = true → d ≤ 100 → Ci EE m 134 [c, .int .i64 d] H fun r H' => TmR H c id r H' := by
 intro d
 induction d using Nat.strongRecOn with
 | _ d ih =>
  intro m H hc hw0 hw hd
  refine Bt rfl rfl Aag (by simp [jP]) ?_
  have hid := hc.lt
  simp only [go_sem, Nat.reduceEqDiff, jP]
  refine Aq (Wk hc hw) rfl fun r H1 ⟨x, e, x0, x1, _, cs1⟩ => ?_
  subst e
  have x1 := x1 (by omega)
  simp only [go_sem, Nat.reduceEqDiff]
  refine P8 3 2 (fun t => t.ρ 0 = .val c ∧ t.ρ 1 = .val (.int .i64 d) ∧ CX H t.H c id ∧ ∃ k : Int, t.ρ 5 = .val (.int .i64 k) ∧ 0 ≤ k ∧ (2 ≤ d ∨ k < 2)) (fun q => ?_) (fun q => ?_) (by rfl) ?_
  ·simp only [go_sem, Nat.reduceEqDiff, q]
   cases q2 : decide (x > 1) <;> simp only [go_sem, Nat.reduceEqDiff, q2]
   ·exact ⟨cs1.cx, x, rfl, x0, .inr (by have := Au q2; omega)⟩
   ·refine Aq (Wk cs1.1 hw) rfl fun r H2 ⟨x2, e, y0, y1, _, cs2⟩ => ?_
    subst e
    simp only [go_sem, Nat.reduceEqDiff]
    exact ⟨(cs1.trans cs2).cx, x2, rfl, y0, .inr (y1 (by omega))⟩
  ·simp only [go_sem, Nat.reduceEqDiff, reduceCtorEq, q]
   exact ⟨cs1.cx, x, rfl, x0, .inl (by have := Au q; omega)⟩
  ·rintro t ⟨t0, t1, tc, k, t5, hk0, hk⟩
   have hwt : Wr m t.H := fun i hi => hw0 i (by have := tc.2.2; omega)
   simp only [go_sem, Nat.reduceEqDiff, t0, t1, t5]
   cases q0 : decide (k = 0) <;> simp only [go_sem, Nat.reduceEqDiff, t0, t1, t5, q0]
   ·cases q1 : decide (k = 1) <;> simp only [go_sem, Nat.reduceEqDiff, t0, t1, t5, q1]
    ·cases q2 : decide (k = 2) <;> simp only [go_sem, Nat.reduceEqDiff, t0, t1, t5, q2]
     ·have hd2 : 2 ≤ d := by
       have := Au q0; have := Au q1; have := Au q2
       rcases hk with hk | hk <;> omega
      have hd1 : IntKind.i64.wrap ((d : Int) - 1) = ((d - 1 : Nat) : Int) := by rw [Ab _ (by omega) (by omega)]; omega
      have p0 : t.H <+: t.H ++ [[]] := Eg
      have s0 : Dz (t.H ++ [[]]) (.slice (some ⟨t.H.length, 0, some 1⟩) 0 (0 * 1)) [] := Jb
      have o0 : Ao H.length (.slice (some ⟨t.H.length, 0, some 1⟩) 0 (0 * 1)) := .inr ⟨_, _, _, _, rfl, tc.2.2⟩
      generalize hwv : Value.slice (some ⟨t.H.length, 0, some 1⟩) 0 (0 * 1) = wv0 at s0 o0
      have c0 := tc.trans (CX.ofPre tc.1 p0)
      refine Aq (Wk c0.1 hw) rfl fun r H2 ⟨n0, e, y0, y1, _, cs2⟩ => ?_
      subst e
      have y1 := y1 (by omega)
      obtain ⟨n, rfl⟩ : ∃ n : Nat, n0 = n := ⟨n0.toNat, by omega⟩
      have c2 := c0.trans cs2.cx
      have s2 := s0.cs cs2 (fun h => by have := Bc o0 id h; omega)
      simp only [go_sem, Nat.reduceEqDiff, t0, t1, t5]
      refine Fq (fun n u => u.ρ 0 = .val c ∧ u.ρ 1 = .val (.int .i64 d) ∧ u.ρ 7 = .val (.int .i64 n) ∧ CX H u.H c id ∧ ∃ wv l, u.ρ 6 = .val wv ∧ Dz u.H wv l ∧ Ao H.length wv ∧ (∀ z ∈ l, z.size ≤ 900) ∧ l.length + n ≤ 4)
       (fun u => CX H u.H c id ∧ ∃ wv l, u.ρ 6 = .val wv ∧ Dz u.H wv l ∧ Ao H.length wv ∧ (∀ z ∈ l, z.size ≤ 900) ∧ l.length ≤ 4) n ?_ ?_ ?_
      ·exact ⟨by simp [Ah, t0], by simp [Ah, t1], by simp [Ah], c2, wv0, [], by simp [Ah], s2, o0, by simp, by simp; omega⟩
      ·rintro n u ⟨u0, u1, u7, uc, wv, l, u6, us, uo, uz, ul⟩
       have hwu : Wr m u.H := fun i hi => hw0 i (by have := uc.2.2; omega)
       simp only [go_sem, Nat.reduceEqDiff, u0, u1, u6, u7]
       cases qn : decide ((n : Int) > 0) <;> simp only [go_sem, Nat.reduceEqDiff, u0, u1, u6, u7, qn]
       ·exact ⟨uc, wv, l, rfl, us, uo, uz, by omega⟩
       have hn : 0 < n := by have := As qn; omega
       simp only [go_sem, Nat.reduceEqDiff, u0, u1, u6, u7, hd1]
       refine Aq (ih (d - 1) (by omega) uc.1 hwu hw (by omega)) rfl fun r H3 ⟨s, e, hs, c3⟩ => ?_
       subst e
       have us3 := us.cx c3 (fun h => by have := Bc uo id h; omega)
       have c3' := uc.trans c3
       obtain ⟨v2, H4, a1, a2, a3, a4, a5, a6, a7⟩ := us3.oneS2 (m := m) s uo c3'.2.2 hw0 (by omega)
       simp only [go_sem, Nat.reduceEqDiff, u0, u1, u6, u7]
       rw [a1]
       rotate_left
       ·rfl
       ·rfl
       ·rfl
       have wn : IntKind.i64.wrap ((n : Int) - 1) = ((n - 1 : Nat) : Int) := by rw [Ab _ (by omega) (by omega)]; omega
       simp only [go_sem, Nat.reduceEqDiff, u0, u1, u6, u7, wn]
       refine ⟨n - 1, by omega, rfl, c3'.own hid (fun j hj => a4 j (by have := c3'.2.2; omega) (W2 uo hj)) a5, v2, _, rfl, a2, a3, fun z hz => ?_, by simp; omega⟩
       rcases Lh hz with hz | hz
       ·exact uz z hz
       ·rw [List.mem_singleton] at hz
        subst hz
        exact hs
      ·rintro u ⟨uc, wv, l, u6, us, uo, uz, ul⟩
       have hwu : Wr m u.H := fun i hi => hw0 i (by have := uc.2.2; omega)
       have a154 := Ax (oH us (by omega) (fun x hx => by have := uz x hx; omega))
       simp only [go_sem, Nat.reduceEqDiff, u6, a154, hwu]
       exact ⟨_, rfl, Cp _, uc⟩
     ·have hd2 : 2 ≤ d := by
       have := As q2
       rcases hk with hk | hk <;> omega
      have hd1 : IntKind.i64.wrap ((d : Int) - 1) = ((d - 1 : Nat) : Int) := by rw [Ab _ (by omega) (by omega)]; omega
      refine Aq (Wk tc.1 hw) rfl fun r H2 ⟨x2, e, y0, y1, _, cs2⟩ => ?_
      subst e
      have y1 := y1 (by omega)
      have hw2 : Wr m H2 := fun i hi => hwt i (by have := cs2.2.2; omega)
      simp only [go_sem, Nat.reduceEqDiff, t0, t1, t5, hd1]
      refine Aq (ih (d - 1) (by omega) cs2.1 hw2 hw (by omega)) rfl fun r H3 ⟨s, e, hs, c3⟩ => ?_
      subst e
      have a153 := Ax (aX (H := H3) (k := IntKind.i64.wrap (1 + x2)) (t := s) (by omega))
      have hw3 : Wr m H3 := fun i hi => hw2 i (by have := c3.2.2; omega)
      simp only [go_sem, Nat.reduceEqDiff, t0, t1, t5, a153, hw3]
      exact ⟨_, rfl, Gu _ _, tc.trans (cs2.cx.trans c3)⟩
    ·refine Aq (Wk tc.1 hw) rfl fun r H2 ⟨x2, e, y0, y1, _, cs2⟩ => ?_
     subst e
     have y1 := y1 (by omega)
     have hw2 : Wr m H2 := fun i hi => hwt i (by have := cs2.2.2; omega)
     simp only [go_sem, t0, t1, t5, Ab (1 + x2) (by omega) (by omega)]
     refine Aa (fun m' h => yR (n := 1 + x2) m' h) rfl hw2 fun r3 H3 ⟨⟨s, e, hs⟩, e2⟩ => ?_
     subst e; subst e2
     simp only [go_sem, t0, t1, t5]
     exact ⟨s, rfl, hs, tc.trans cs2.cx⟩
   ·refine Aq (oX tc.1 (by omega) (by omega) hwt hw) rfl fun r H2 ⟨s, e, hs, cs2⟩ => ?_
    subst e
    have hw2 : Wr m H2 := fun i hi => hwt i (by have := cs2.2.2; omega)
    have a150 := Ax (bC (H := H2) (x := s) (by omega))
    simp only [go_sem, t0, t1, t5, a150, hw2]
    exact ⟨_, rfl, Fx _, tc.trans cs2.cx⟩
def AnR (H : Hp) (c : Value) (id : Nat) (r : Value) (H' : Hp) : Prop := ∃ s : ByteArray, r = .string s ∧ s.size ≤ 1000 ∧ CX H H' c id
theorem f95 {m : Md} {H : Hp} {c : Value} {id : Nat} (hc : K6 H c id) (hw0 : Wr m H) (hw : m.wr id = true) : Ci EE m 95 [c] H fun r H' => AnR H c id r H' := by
 have hid := hc.lt
 refine Hi rfl rfl k95 (by simp [sM]) fun m' hm => ?_
 have hw0 : Wr m' H := fun i hi => (hm i).trans (hw0 i hi)
 have hw : m'.wr id = true := (hm id).trans hw
 simp only [go_sem, Nat.reduceEqDiff, sM]
 refine Aq (Wk hc hw) rfl fun r H1 ⟨x, e, x0, x1, _, cs1⟩ => ?_
 subst e
 have x1 := x1 (by omega)
 obtain ⟨d, hd⟩ : ∃ d : Nat, IntKind.i64.wrap (1 + x) = (d : Int) := ⟨(1 + x).toNat, by rw [Ab _ (by omega) (by omega)]; omega⟩
 have hd9 : d ≤ 100 := by rw [Ab _ (by omega) (by omega)] at hd; omega
 have hw1 : Wr m' H1 := fun i hi => hw0 i (by have := cs1.2.2; omega)
 simp only [go_sem, Nat.reduceEqDiff, hd]
 refine Aq (zP d cs1.1 hw1 hw hd9) rfl fun r H2 ⟨s, e, hs, c2⟩ => ?_
 subst e
 have hw2 : Wr m' H2 := fun i hi => hw1 i (by have := c2.2.2; omega)
 have cA := cs1.cx.trans c2
 simp only [go_sem, Nat.reduceEqDiff]
 refine Aq (wH cA.1 hw) rfl fun r H3 ⟨b, e, cs3⟩ => ?_
 subst e
 have hw3 : Wr m' H3 := fun i hi => hw2 i (by have := cs3.2.2; omega)
 have cB := cA.trans cs3.cx
 simp only [go_sem, Nat.reduceEqDiff]
 cases b with
 | true =>
  simp only [go_sem, Nat.reduceEqDiff]
  refine Aq (oB (s := s) cB.1 (by omega) hw3 hw) rfl fun r H4 ⟨t, e, htz, cs4⟩ => ?_
  subst e
  simp only [go_sem, Nat.reduceEqDiff]
  exact ⟨t, rfl, by omega, ((cB.trans cs4.cx).cut hid).cx⟩
 | false =>
  simp only [go_sem, Nat.reduceEqDiff]
  refine Aq (wH cB.1 hw) rfl fun r H4 ⟨b, e, cs4⟩ => ?_
  subst e
  have cC := cB.trans cs4.cx
  simp only [go_sem, Nat.reduceEqDiff]
  cases b with
  | false =>
   simp only [go_sem, Nat.reduceEqDiff]
   exact ⟨s, rfl, by omega, (cC.cut hid).cx⟩
  | true =>
   simp only [go_sem, Nat.reduceEqDiff]
   refine Ak 9 (fun i t => t.H = H4 ∧ t.ρ 4 = .val (.int .i64 i) ∧ ∃ u : ByteArray, t.ρ 3 = .val (.string u) ∧ u.size ≤ 900 + 2 * i) (fun t => t.H = H4 ∧ ∃ u : ByteArray, t.ρ 3 = .val (.string u) ∧ u.size ≤ 1000) ?_ ?_ ?_
   ·exact ⟨rfl, by simp [Ah], s, by simp [Ah], by omega⟩
   ·rintro i t hi ⟨tH, t4, u, t3, hu⟩
    simp only [go_sem, Nat.reduceEqDiff, t3, t4]
    cases q : decide ((i : Int) < 9) <;> simp only [go_sem, Nat.reduceEqDiff, t3, t4, q]
    ·exact ⟨tH, u, rfl, by omega⟩
    have hi9 : i < 9 := by have := As q; omega
    have hz : (⟨#[115, 1]⟩ : ByteArray).size + u.size ≤ 9223372036854775807 := by
     have : (⟨#[115, 1]⟩ : ByteArray).size = 2 := rfl
     omega
    simp only [go_sem, Nat.reduceEqDiff, t3, t4, hz, Ab ((i : Int) + 1) (by omega) (by omega)]
    refine ⟨hi9, tH, by simp, _, rfl, ?_⟩
    rw [C6]
    have : (⟨#[115, 1]⟩ : ByteArray).size = 2 := rfl
    omega
   ·rintro t ⟨tH, u, t3, hu⟩
    simp only [go_sem, t3, tH]
    exact ⟨u, rfl, hu, (cC.cut hid).cx⟩
theorem dJ {H : Hp} {tv kv : Value} {T : List ByteArray} {K : List Int} (h : Dz H tv T) (k : Bu H kv K) : ∀ id, id ∈ Ae tv ∨ id ∈ Ae kv → id ∈ Ae (.agg #[tv, kv]) := fun id hid => by
 rcases h with ⟨rfl, _⟩ | ⟨i1, o1, c1, q1, rfl, _⟩ <;> rcases k with ⟨rfl, _⟩ | ⟨i2, o2, c2, q2, rfl, _⟩ <;> simpa [Ae, Xz] using hid
theorem TK.still {N : Nat} {H H' : Hp} {tv kv : Value} {T : List ByteArray} {K : List Int} (h : TK N H tv kv T K) (hk : ∀ j, N ≤ j → j < H.length → H'[j]? = H[j]?) : TK N H' tv kv T K :=
 ⟨h.ts.frame (fun _ _ _ h => h) fun id off e ln cap hv => hk id (Bc h.ot id (by subst hv; simp [Ae])) (h.ts.ids id (by subst hv; simp [Ae])),
  h.ks.frame (fun _ _ _ h => h) fun id off e ln cap hv => hk id (Bc h.ok id (by subst hv; simp [Ae])) (h.ks.ids id (by subst hv; simp [Ae])), h.ot, h.ok, h.ap⟩
theorem TK.cx {N : Nat} {H H' : Hp} {tv kv c : Value} {T : List ByteArray} {K : List Int} {id : Nat} (h : TK N H tv kv T K) (k : CX H H' c id) (hid : id < N) : TK N H' tv kv T K :=
 h.still fun j h1 h2 => k.2.1 j h2 (by omega)
theorem U0 {l : List ByteArray} (h : 12 < l.length) : F7 l = ⟨#[]⟩ := by
 unfold F7
 rw [if_neg (fun h2 => by omega)]
 rfl
theorem Lo {H : Hp} {v : Value} {l : List ByteArray} (hv : Dz H v l) (hl : ∀ x ∈ l, x.size ≤ 1048576) : Aw EE 154 [v] H (.string (F7 l)) := by
 by_cases h12 : l.length ≤ 12
 ·exact oH hv h12 hl
 refine Ag rfl rfl oS (by simp [aA]) rfl fun m hw => ?_
 have hd : decide ((l.length : Int) > 12) = true := decide_eq_true (by omega)
 simp only [go_sem, Nat.reduceEqDiff, aA, hv.len, hd]
 rw [U0 (by omega)]
noncomputable def Ay (l : List Int) : ByteArray := F7 ((l.take 13).map O8)
theorem B2 (l : List Int) : (Ay l).size ≤ 900 := Cp _
theorem Mk {H : Hp} {v : Value} {l : List Int} (hl : Bu H v l) : Aw EE 158 [v] H (.string (Ay l)) := by
 refine Ag rfl rfl xE (by simp [mZ]) rfl fun m hw => ?_
 have hroom := hl.room
 have s0 : Dz (H ++ [[]]) (.slice (some ⟨H.length, 0, some 1⟩) 0 (0 * 1)) [] := Jb
 have o0 : Ao H.length (.slice (some ⟨H.length, 0, some 1⟩) 0 (0 * 1)) := .inr ⟨_, _, _, _, rfl, Nat.le_refl _⟩
 generalize hwv : Value.slice (some ⟨H.length, 0, some 1⟩) 0 (0 * 1) = wv at s0 o0
 simp only [go_sem, Nat.reduceEqDiff, mZ, hwv]
 refine Ak 13 (fun i s => H <+: s.H ∧ i ≤ l.length ∧ s.ρ 0 = .val v ∧ s.ρ 4 = .val (.int .i64 i) ∧ ∃ w, s.ρ 3 = .val w ∧ Dz s.H w ((l.take i).map O8) ∧ Ao H.length w)
  (fun s => H <+: s.H ∧ ∃ w, s.ρ 3 = .val w ∧ Dz s.H w ((l.take 13).map O8) ∧ Ao H.length w) ?_ ?_ ?_
 ·exact ⟨Eg, Nat.zero_le _, by simp [Ah, Cb], by simp [Ah], wv, by simp [Ah], by simpa using s0, o0⟩
 ·rintro i s hi ⟨hH, hil0, k0, k4, w, k3, hs, ho⟩
  have hl' := hl.pre hH
  have hw' := hw.pre hH
  simp only [go_sem, Nat.reduceEqDiff, reduceCtorEq, k0, k3, k4, hl'.len]
  cases c1 : decide ((i : Int) < (l.length : Int)) <;> simp only [go_sem, Nat.reduceEqDiff, reduceCtorEq, k0, k3, k4, c1]
  ·have : i = l.length := by have := Au c1; omega
   have e : l.take 13 = l.take i := by rw [List.take_of_length_le (by omega), List.take_of_length_le (by omega)]
   rw [e]
   exact ⟨hH, w, rfl, hs, ho⟩
  have hil : i < l.length := by have := As c1; omega
  cases c2 : decide ((i : Int) ≤ 12) <;> simp only [go_sem, Nat.reduceEqDiff, reduceCtorEq, k0, k3, k4, c2]
  ·have : i = 13 := by have := Au c2; omega
   subst this
   exact ⟨hH, w, rfl, hs, ho⟩
  have hi13 : i < 13 := by have := As c2; omega
  have w1 := Ab ((i : Int) + 1) (by omega) (by omega)
  obtain ⟨id, p, o, ho2, hr, hia⟩ := hl'.int (B7 hil)
  have a171 := Ax (tN (H := s.H) (n := l[i]))
  simp only [go_sem, Nat.reduceEqDiff, reduceCtorEq, k0, k3, k4, hia, ho2, hr, a171, hw']
  have hin : O8 l[i] ∈ (l.take 13).map O8 := List.mem_map.2 ⟨_, List.mem_take_iff_getElem.2 ⟨i, by omega, rfl⟩, rfl⟩
  cases q1 : decide (O8 l[i] = ⟨#[]⟩) <;> simp only [go_sem, Nat.reduceEqDiff, reduceCtorEq, k0, k3, k4, q1]
  rotate_left
  ·refine ⟨?_, (List.prefix_iff_eq_take.1 hH).symm⟩
   unfold Ay
   rw [Sc hin (by rw [As q1]; exact W3)]
  obtain ⟨v', H', a1, a2, a3, a4, a5, a6, a7⟩ := hs.oneS2 (m := m) (O8 l[i]) ho hH.length_le hw (by simp; omega)
  rw [a1]
  rotate_left
  ·rfl
  ·rfl
  ·rfl
  simp only [go_sem, Nat.reduceEqDiff, k0, k4, w1]
  refine ⟨hi13, a7 H (Nat.le_refl _) hH, hil, by simp, v', rfl, ?_, a3⟩
  rw [List.take_succ_eq_append_getElem hil, List.map_append]
  exact a2
 ·rintro s ⟨hH, w, k3, hs, ho⟩
  have a154 := Ax (Lo hs (fun x hx => by
   obtain ⟨n, _, rfl⟩ := List.mem_map.1 hx
   have := Xj n
   omega))
  simp only [go_sem, k3, a154, hw.pre hH]
  exact ⟨rfl, (List.prefix_iff_eq_take.1 hH).symm⟩
noncomputable def Ct (x : Re) : ByteArray := if E4 x = true then Ay [x.1, x.2.1, x.2.2] else ⟨#[]⟩
theorem Kw (x : Re) : (Ct x).size ≤ 900 := by
 unfold Ct
 split
 ·exact B2 _
 ·exact Nat.zero_le _
theorem N0 {H : Hp} {l : List Int} (h : l.length ≤ 1000) : Bu (H ++ [l.map (Value.int .i64)]) (.slice (some ⟨H.length, 0, some 1⟩) l.length l.length) l := Vq l (by omega)
theorem Uo {H : Hp} {l : List ByteArray} (h : l.length ≤ 1000) : Dz (H ++ [l.map Value.string]) (.slice (some ⟨H.length, 0, some 1⟩) l.length l.length) l :=
 .inr ⟨H.length, 0, l.length, l.map Value.string, rfl, by simp, by simp, by simp, by omega, fun i b hi => by
  unfold En eS
  refine List.ext_getElem? fun j => ?_
  rw [List.getElem?_take, List.getElem?_drop]
  cases j with
  | zero =>
   simp only [Nat.lt_one_iff, if_true, Nat.zero_add, Nat.mul_one, Nat.add_zero, List.getElem?_map, hi]
   rfl
  | succ j => simp⟩
theorem lA {H : Hp} {x : Re} : Aw EE 159 [.agg #[.int .i64 x.1, .int .i64 x.2.1, .int .i64 x.2.2]] H (.string (Ct x)) := by
 refine Ag rfl rfl vC (by simp [hD]) rfl fun m hw => ?_
 have a101 := Ax (Rj (H := H) (x := x))
 have hs : Bu (H ++ [[.int .i64 x.1, .int .i64 x.2.1, .int .i64 x.2.2]]) (.slice (some ⟨H.length, 0, some 1⟩) 3 3) [x.1, x.2.1, x.2.2] := N0 (l := [x.1, x.2.1, x.2.2]) (by simp)
 have a158 := Ax (Mk hs)
 have hw2 : Wr m (H ++ [[.int .i64 x.1, .int .i64 x.2.1, .int .i64 x.2.2]]) := hw.pre (Eg)
 simp only [go_sem, Nat.reduceEqDiff, hD, a101, hw]
 cases q : E4 x <;> simp only [go_sem, Nat.reduceEqDiff, reduceCtorEq, Nat.reduceLeDiff, Nat.reduceMul, q, a158, hw2]
 ·unfold Ct; rw [q]; rfl
 ·unfold Ct
  rw [if_pos q]
  exact ⟨rfl, by simp⟩
theorem dT (z : List Value) : Bn 5 z = z ++ (z ++ (z ++ (z ++ z))) := by simp [Bn, List.replicate_succ]
attribute [go_sem] dT
noncomputable def Ft (n : Int) : ByteArray := if 1 ≤ n ∧ n ≤ 1000000 then Oj n else ⟨#[]⟩
theorem Qv (n : Int) : (Ft n).size ≤ 900 := by
 unfold Ft Oj
 split
 ·exact Fx _
 ·exact Nat.zero_le _
theorem oT {H : Hp} {n : Int} : Aw EE 152 [.int .i64 n] H (.string (Ft n)) := by
 refine Ag rfl rfl pS (by simp [Tu]) rfl fun m hw => ?_
 have h7 := D0 n
 have hs : (⟨#[107]⟩ : ByteArray).size + (Bx n).size ≤ 9223372036854775807 := by rw [Mx]; omega
 have a160 := Ax (Us (H := H) (n := n))
 have a170 := Ax (dG (H := H) (s := (⟨#[107]⟩ : ByteArray) ++ Bx n) (by rw [C6, Mx]; omega))
 simp only [go_sem, Nat.reduceEqDiff, Tu, Cu, hw]
 cases q : A0 n 1 1000000 <;> simp only [go_sem, Nat.reduceEqDiff, q, a160, a170, hw, hs]
 ·unfold Ft
  rw [if_neg (fun h => by rw [Bz.2 h] at q; cases q)]
 ·unfold Ft
  rw [if_pos (Bz.1 q)]
  exact congrArg Value.string (Lr (show Eu n = true by have := Bz.1 q; unfold Eu; simp [this])).2.1.symm
structure Wl where
 cl : Int
 sv : Int
 ky : Int
 rs : Re
 pa : List Int
 vi : List Int
def Hr (t : Wl) : Bool := A0 t.cl 0 5 && (Qf t.sv && (A0 t.ky 1 1000000 && (E4 t.rs && (Kf t.pa 6 3 && Kf t.vi 4 3))))
theorem pQ {H : Hp} {t : Wl} {p v : Value} (hp : Bu H p t.pa) (hv : Bu H v t.vi) : Aw EE 157 [.agg #[.int .i64 t.cl, .int .i64 t.sv, .int .i64 t.ky, .int .i64 t.rs.1, .int .i64 t.rs.2.1, .int .i64 t.rs.2.2, p, v]] H (.bool (Hr t)) := by
 refine Ag rfl rfl tY (by simp [mO]) rfl fun m hw => ?_
 have a101 := Ax (Rj (H := H) (x := t.rs))
 have ap := Ax (qU (most := 6) (n := 3) hp)
 have av := Ax (qU (most := 4) (n := 3) hv)
 have e6 : ((6 : Nat) : Int) = 6 := rfl
 have e4 : ((4 : Nat) : Int) = 4 := rfl
 rw [e6] at ap
 rw [e4] at av
 simp only [go_sem, Nat.reduceEqDiff, reduceCtorEq, mO, Xy, hw]
 cases q1 : A0 t.cl 0 5 <;> simp only [go_sem, Nat.reduceEqDiff, reduceCtorEq, q1, Yh, hw]
 ·rw [show Hr t = false by unfold Hr; rw [q1]; rfl]
 cases q2 : Qf t.sv <;> simp only [go_sem, Nat.reduceEqDiff, reduceCtorEq, q2, Cu, hw]
 ·rw [show Hr t = false by unfold Hr; rw [q2]; simp]
 cases q3 : A0 t.ky 1 1000000 <;> simp only [go_sem, Nat.reduceEqDiff, reduceCtorEq, Nat.reduceLeDiff, q3, a101, hw]
 ·rw [show Hr t = false by unfold Hr; rw [q3]; simp]
 cases q4 : E4 t.rs <;> simp only [go_sem, Nat.reduceEqDiff, reduceCtorEq, Nat.reduceLeDiff, q4, ap, hw]
 ·rw [show Hr t = false by unfold Hr; rw [q4]; simp]
 cases q5 : Kf t.pa 6 3 <;> simp only [go_sem, Nat.reduceEqDiff, reduceCtorEq, q5, av, hw]
 ·rw [show Hr t = false by unfold Hr; rw [q5]; simp]
 ·rw [show Hr t = Kf t.vi 4 3 by unfold Hr; rw [q1, q2, q3, q4, q5]; rfl]
noncomputable def pW (t : Wl) (k : Int) : ByteArray := if Hr t = true then Kk k (F7 [Ay [t.cl, t.sv], Ft t.ky, Ct t.rs, Ay t.pa, Ay t.vi]) else ⟨#[]⟩
theorem Yb (t : Wl) (k : Int) : (pW t k).size ≤ 900 := by
 unfold pW
 split
 ·exact Gu _ _
 ·exact Nat.zero_le _
theorem tO {H : Hp} {t : Wl} {p v : Value} {k : Int} (hp : Bu H p t.pa) (hv : Bu H v t.vi) : Aw EE 138 [.agg #[.int .i64 t.cl, .int .i64 t.sv, .int .i64 t.ky, .int .i64 t.rs.1, .int .i64 t.rs.2.1, .int .i64 t.rs.2.2, p, v], .int .i64 k] H (.string (pW t k)) := by
 refine Ag rfl rfl zQ (by simp [gP]) rfl fun m hw => ?_
 have P1 : H <+: H ++ [[.int .i64 t.cl, .int .i64 t.sv]] := Eg
 have hs : Bu (H ++ [[.int .i64 t.cl, .int .i64 t.sv]]) (.slice (some ⟨H.length, 0, some 1⟩) 2 2) [t.cl, t.sv] := N0 (l := [t.cl, t.sv]) (by simp)
 generalize hH1 : H ++ [[.int .i64 t.cl, .int .i64 t.sv]] = H1 at *
 have P2 : H1 <+: H1 ++ [[.string (Ay [t.cl, t.sv]), .string (Ft t.ky), .string (Ct t.rs), .string (Ay t.pa), .string (Ay t.vi)]] := Eg
 have hs2 : Dz (H1 ++ [[.string (Ay [t.cl, t.sv]), .string (Ft t.ky), .string (Ct t.rs), .string (Ay t.pa), .string (Ay t.vi)]]) (.slice (some ⟨H1.length, 0, some 1⟩) 5 5) [Ay [t.cl, t.sv], Ft t.ky, Ct t.rs, Ay t.pa, Ay t.vi] := Uo (l := [Ay [t.cl, t.sv], Ft t.ky, Ct t.rs, Ay t.pa, Ay t.vi]) (by simp)
 have b1 := B2 [t.cl, t.sv]; have b2 := Qv t.ky; have b3 := Kw t.rs; have b4 := B2 t.pa; have b5 := B2 t.vi
 have hz : ∀ x ∈ [Ay [t.cl, t.sv], Ft t.ky, Ct t.rs, Ay t.pa, Ay t.vi], x.size ≤ 1048576 := fun x hx => by
  simp only [List.mem_cons, List.not_mem_nil, or_false] at hx
  rcases hx with rfl | rfl | rfl | rfl | rfl <;> omega
 have bl := Cp [Ay [t.cl, t.sv], Ft t.ky, Ct t.rs, Ay t.pa, Ay t.vi]
 have a157 := Ax (pQ hp hv)
 have a158 := Ax (Mk hs)
 have a152 := Ax (oT (H := H1) (n := t.ky))
 have a159 := Ax (lA (H := H1) (x := t.rs))
 have ap := Ax (Mk (hp.pre P1))
 have av := Ax (Mk (hv.pre P1))
 have a154 := Ax (Lo hs2 hz)
 have a153 := Ax (aX (H := H1 ++ [[.string (Ay [t.cl, t.sv]), .string (Ft t.ky), .string (Ct t.rs), .string (Ay t.pa), .string (Ay t.vi)]]) (k := k) (t := F7 [Ay [t.cl, t.sv], Ft t.ky, Ct t.rs, Ay t.pa, Ay t.vi]) (by omega))
 have w1 := hw.pre P1
 have w2 := w1.pre P2
 have V1 := hp.vc; have V2 := hv.vc
 simp only [go_sem, Nat.reduceEqDiff, gP, V1, V2, a157, hw]
 cases q : Hr t <;> simp only [go_sem, Nat.reduceEqDiff, q, V1, V2]
 ·unfold pW; rw [q]; rfl
 refine Af ?_
 simp only [go_sem, Nat.reduceEqDiff, reduceCtorEq, Nat.reduceLeDiff, Nat.reduceMul, V1, V2, hH1, a158, a152, a159, ap, av, w1, a154, a153, w2]
 refine ⟨by rfl, ?_⟩
 refine ⟨by unfold pW; rw [if_pos q], ?_⟩
 exact (List.prefix_iff_eq_take.1 (P1.trans P2)).symm
noncomputable def T9 (x : Re) (k : Int) : ByteArray := if Hk x = true then Kk k (Ay [7, x.1, x.2.1, x.2.2]) else ⟨#[]⟩
theorem O6 (x : Re) (k : Int) : (T9 x k).size ≤ 900 := by
 unfold T9
 split
 ·exact Gu _ _
 ·exact Nat.zero_le _
theorem hM {H : Hp} {x : Re} {k : Int} : Aw EE 192 [.agg #[.int .i64 x.1, .int .i64 x.2.1, .int .i64 x.2.2], .int .i64 k] H (.string (T9 x k)) := by
 refine Ag rfl rfl Abi (by simp [gG]) rfl fun m hw => ?_
 have P1 : H <+: H ++ [[.int .i64 7, .int .i64 x.1, .int .i64 x.2.1, .int .i64 x.2.2]] := Eg
 have hs : Bu (H ++ [[.int .i64 7, .int .i64 x.1, .int .i64 x.2.1, .int .i64 x.2.2]]) (.slice (some ⟨H.length, 0, some 1⟩) 4 4) [7, x.1, x.2.1, x.2.2] := N0 (l := [7, x.1, x.2.1, x.2.2]) (by simp)
 have b1 := B2 [7, x.1, x.2.1, x.2.2]
 have a102 := Ax (cD (H := H) (x := x))
 have a158 := Ax (Mk hs)
 have a153 := Ax (aX (H := H ++ [[.int .i64 7, .int .i64 x.1, .int .i64 x.2.1, .int .i64 x.2.2]]) (k := k) (t := Ay [7, x.1, x.2.1, x.2.2]) (by omega))
 have w1 := hw.pre P1
 simp only [go_sem, Nat.reduceEqDiff, gG, a102, hw]
 cases q : Hk x <;> simp only [go_sem, Nat.reduceEqDiff, reduceCtorEq, Nat.reduceLeDiff, Nat.reduceMul, q, a158, a153, w1]
 ·unfold T9; rw [q]; rfl
 ·unfold T9; rw [if_pos q]; exact ⟨rfl, by simp⟩
abbrev Gr := Int × Int × Int × Re
def Kv (g : Gr) : Bool := A0 g.1 1 1000000 && (Qf g.2.1 && (A0 g.2.2.1 0 1000000 && E4 g.2.2.2))
theorem oV {H : Hp} {g : Gr} : Aw EE 224 [.agg #[.int .i64 g.1, .int .i64 g.2.1, .int .i64 g.2.2.1, .int .i64 g.2.2.2.1, .int .i64 g.2.2.2.2.1, .int .i64 g.2.2.2.2.2]] H (.bool (Kv g)) := by
 refine Ag rfl rfl Aao (by simp [mH]) rfl fun m hw => ?_
 have a101 := Ax (Rj (H := H) (x := g.2.2.2))
 simp only [go_sem, Nat.reduceEqDiff, reduceCtorEq, mH, Cu, hw]
 cases q1 : A0 g.1 1 1000000 <;> simp only [go_sem, Nat.reduceEqDiff, reduceCtorEq, q1, Yh, hw]
 ·rw [show Kv g = false by unfold Kv; rw [q1]; rfl]
 cases q2 : Qf g.2.1 <;> simp only [go_sem, Nat.reduceEqDiff, reduceCtorEq, q2, Cu, hw]
 ·rw [show Kv g = false by unfold Kv; rw [q2]; simp]
 cases q3 : A0 g.2.2.1 0 1000000 <;> simp only [go_sem, Nat.reduceEqDiff, reduceCtorEq, q3, a101, hw]
 ·rw [show Kv g = false by unfold Kv; rw [q3]; simp]
 ·rw [show Kv g = E4 g.2.2.2 by unfold Kv; rw [q1, q2, q3]; rfl]
theorem jW (n : Int) : iZ n = Ft n := by
 unfold iZ Ft
 by_cases h : 1 ≤ n ∧ n ≤ 1000000
 ·rw [if_pos h, if_pos h, (Lr (show Eu n = true by unfold Eu; simp [h])).2.1]
  congr 1
  unfold Bx
  rw [if_pos ⟨by omega, by omega⟩]
  unfold Bo
  congr 3
  have : ∀ n, nP n = Cv n := fun n => by
   induction n using Nat.strongRecOn with
   | _ n ih =>
    rw [nP, Cv]
    split
    ·rfl
    ·rw [ih _ (by omega)]
  exact this _
 ·rw [if_neg h, if_neg h]
noncomputable def oO (g : Gr) (k : Int) : ByteArray := if Kv g = true then Kk k (F7 [Ft g.1, Ay [g.2.1, g.2.2.1], Ct g.2.2.2]) else ⟨#[]⟩
theorem Yc (g : Gr) (k : Int) : (oO g k).size ≤ 900 := by
 unfold oO
 split
 ·exact Gu _ _
 ·exact Nat.zero_le _
theorem xS {H : Hp} {g : Gr} {k : Int} : Aw EE 219 [.agg #[.int .i64 g.1, .int .i64 g.2.1, .int .i64 g.2.2.1, .int .i64 g.2.2.2.1, .int .i64 g.2.2.2.2.1, .int .i64 g.2.2.2.2.2], .int .i64 k] H (.string (oO g k)) := by
 refine Ag rfl rfl rU (by simp [mS]) rfl fun m hw => ?_
 have P1 : H <+: H ++ [[.int .i64 g.2.1, .int .i64 g.2.2.1]] := Eg
 have hs : Bu (H ++ [[.int .i64 g.2.1, .int .i64 g.2.2.1]]) (.slice (some ⟨H.length, 0, some 1⟩) 2 2) [g.2.1, g.2.2.1] := N0 (l := [g.2.1, g.2.2.1]) (by simp)
 generalize hH1 : H ++ [[.int .i64 g.2.1, .int .i64 g.2.2.1]] = H1 at *
 have P2 : H1 <+: H1 ++ [[.string (Ft g.1), .string (Ay [g.2.1, g.2.2.1]), .string (Ct g.2.2.2)]] := Eg
 have hs2 : Dz (H1 ++ [[.string (Ft g.1), .string (Ay [g.2.1, g.2.2.1]), .string (Ct g.2.2.2)]]) (.slice (some ⟨H1.length, 0, some 1⟩) 3 3) [Ft g.1, Ay [g.2.1, g.2.2.1], Ct g.2.2.2] := Uo (l := [Ft g.1, Ay [g.2.1, g.2.2.1], Ct g.2.2.2]) (by simp)
 have b1 := Qv g.1; have b2 := B2 [g.2.1, g.2.2.1]; have b3 := Kw g.2.2.2
 have hz : ∀ x ∈ [Ft g.1, Ay [g.2.1, g.2.2.1], Ct g.2.2.2], x.size ≤ 1048576 := fun x hx => by
  simp only [List.mem_cons, List.not_mem_nil, or_false] at hx
  rcases hx with rfl | rfl | rfl <;> omega
 have bl := Cp [Ft g.1, Ay [g.2.1, g.2.2.1], Ct g.2.2.2]
 have hpu : Mi 152 [.int .i64 g.1] = some (.string (Ft g.1)) := by rw [← jW]; rfl
 have a224 := Ax (oV (H := H) (g := g))
 have a158 := Ax (Mk hs)
 have a159 := Ax (lA (H := H1) (x := g.2.2.2))
 have a154 := Ax (Lo hs2 hz)
 have a153 := Ax (aX (H := H1 ++ [[.string (Ft g.1), .string (Ay [g.2.1, g.2.2.1]), .string (Ct g.2.2.2)]]) (k := k) (t := F7 [Ft g.1, Ay [g.2.1, g.2.2.1], Ct g.2.2.2]) (by omega))
 have w1 := hw.pre P1
 have w2 := w1.pre P2
 simp only [go_sem, Nat.reduceEqDiff, mS, a224, hw]
 cases q : Kv g <;> simp only [go_sem, Nat.reduceEqDiff, q]
 ·unfold oO; rw [q]; rfl
 refine Af ?_
 simp only [go_sem, Nat.reduceEqDiff, reduceCtorEq, Nat.reduceLeDiff, Nat.reduceMul, Qj, hpu, hH1, a158, a159, w1, a154, a153, w2]
 refine ⟨by rfl, ?_⟩
 refine ⟨by unfold oO; rw [if_pos q], ?_⟩
 exact (List.prefix_iff_eq_take.1 (P1.trans P2)).symm
def gN : ByteArray := ⟨#[97, 99, 99, 101, 112, 116]⟩
noncomputable def F0 (a : ByteArray) (l : List Int) : ByteArray := l.foldl (fun a n => a ++ ⟨#[32]⟩ ++ Bb n) a
noncomputable def Ir (w : ByteArray) (l : List Int) : ByteArray := F0 w l ++ ⟨#[10]⟩
theorem Fu {b : UInt8} : (⟨#[b]⟩ : ByteArray).size = 1 := rfl
theorem Lw : ∀ (l : List Int) (a : ByteArray), (F0 a l).size ≤ a.size + 22 * l.length
 | [], a => by simp [F0]
 | n :: l, a => by
  have := Lw l (a ++ ⟨#[32]⟩ ++ Bb n)
  have h := Dq n
  show (F0 (a ++ ⟨#[32]⟩ ++ Bb n) l).size ≤ _
  rw [ByteArray.size_append, ByteArray.size_append, Fu] at this
  simp only [List.length_cons]
  omega
theorem R7 {w : ByteArray} {l : List Int} : (Ir w l).size ≤ w.size + 22 * l.length + 1 := by
 unfold Ir
 have := Lw l w
 rw [ByteArray.size_append, Fu]
 omega
theorem Wy {a : ByteArray} {l : List Int} {i : Nat} (h : i < l.length) : F0 a (l.take (i + 1)) = F0 a (l.take i) ++ ⟨#[32]⟩ ++ Bb l[i] := by
 unfold F0
 rw [List.take_succ_eq_append_getElem h, List.foldl_append]
 rfl
theorem f50 {H : Hp} {v : Value} {l : List Int} {wd : ByteArray} (hl : Bu H v l) (hle : l.length ≤ 5) (hwd : wd.size ≤ 100) : Aw EE 50 [.string wd, v] H (.string (Ir wd l)) := by
 refine Ag rfl rfl k50 (by simp [sA]) rfl fun m hw => ?_
 simp only [go_sem, Nat.reduceEqDiff, sA, hl.len]
 refine Ak l.length (fun i s => s.H = H ∧ s.ρ 0 = .val (.string (F0 wd (l.take i))) ∧ s.ρ 7 = .val v ∧ s.ρ 8 = .val (.int .i64 l.length) ∧ s.ρ 9 = .val (.int .i64 i)) (fun s => s.H = H ∧ s.ρ 0 = .val (.string (F0 wd l))) ?_ ?_ ?_
 ·exact ⟨rfl, by simp [Ah, Cb, F0], by simp [Ah], by simp [Ah], by simp [Ah]⟩
 ·rintro i s hi ⟨hH, k0, k7, k8, k9⟩
  simp only [go_sem, k0, k7, k8, k9]
  cases c1 : decide ((i : Int) < (l.length : Int)) <;> simp only [go_sem, k0, k7, k8, k9, c1]
  ·rw [List.take_of_length_le (by have := Au c1; omega)]
   exact ⟨hH, rfl⟩
  have hil : i < l.length := by have := As c1; omega
  have w1 := Ab ((i : Int) + 1) (by omega) (by omega)
  obtain ⟨id, p, o, ho, hr, hia⟩ := hl.int (B7 hil)
  have ak := Ax (f90 (H := H) (n := l[i]))
  have hn := Lw (l.take i) wd
  have hd := Dq l[i]
  rw [List.length_take] at hn
  have h1 : (F0 wd (l.take i)).size + (⟨#[32]⟩ : ByteArray).size ≤ 9223372036854775807 := by rw [Fu]; omega
  have h2 : (F0 wd (l.take i) ++ ⟨#[32]⟩).size + (Bb l[i]).size ≤ 9223372036854775807 := by rw [ByteArray.size_append, Fu]; omega
  simp only [go_sem, Nat.reduceEqDiff, reduceCtorEq, k0, k7, k8, k9, hia, hH, ho, hr, ak, hw, h1, h2, w1]
  rw [Wy hil]
  exact ⟨hil, rfl, by simp⟩
 ·rintro s ⟨hH, k0⟩
  have hn := Lw l wd
  have h1 : (F0 wd l).size + (⟨#[10]⟩ : ByteArray).size ≤ 9223372036854775807 := by rw [Fu]; omega
  simp only [go_sem, k0, hH, h1]
  try rfl
noncomputable def aM (e : Pb) : ByteArray := Ir (El e.kd) [e.rm, e.bq, e.cl, e.sv, e.ky]
noncomputable def bM (a : I7) : ByteArray := Ir gN [a.sv, a.cl, a.op, a.nw]
noncomputable def Hf (l : List Pb) : ByteArray := l.foldl (fun s e => s ++ aM e) ⟨#[]⟩
noncomputable def M8 (s : ByteArray) (l : List I7) : ByteArray := l.foldl (fun s a => s ++ bM a) s
noncomputable def dB (w : Wd) : ByteArray := if A6 w = true then M8 (Hf w.log) w.acs else ⟨#[]⟩
theorem Nx (k : Int) : (El k).size ≤ 8 := by
 unfold El
 split
 ·decide
 ·split
  ·decide
  ·split
   ·decide
   ·split <;> decide
theorem Vl (e : Pb) : (aM e).size ≤ 119 := by
 have h1 := R7 (w := El e.kd) (l := [e.rm, e.bq, e.cl, e.sv, e.ky])
 have h2 := Nx e.kd
 unfold aM
 simp only [List.length_cons, List.length_nil] at h1
 omega
theorem Wm (a : I7) : (bM a).size ≤ 119 := by
 have h1 := R7 (w := gN) (l := [a.sv, a.cl, a.op, a.nw])
 have h2 : gN.size = 6 := rfl
 unfold bM
 simp only [List.length_cons, List.length_nil] at h1
 omega
theorem Ws {l : List Pb} {i : Nat} (h : i < l.length) : Hf (l.take (i + 1)) = Hf (l.take i) ++ aM l[i] := by
 unfold Hf
 rw [List.take_succ_eq_append_getElem h, List.foldl_append]
 rfl
theorem Wq {s : ByteArray} {l : List I7} {i : Nat} (h : i < l.length) : M8 s (l.take (i + 1)) = M8 s (l.take i) ++ bM l[i] := by
 unfold M8
 rw [List.take_succ_eq_append_getElem h, List.foldl_append]
 rfl
theorem Ny : ∀ (l : List Pb), (Hf l).size ≤ 119 * l.length := by
 have : ∀ (l : List Pb) (s : ByteArray), (l.foldl (fun s e => s ++ aM e) s).size ≤ s.size + 119 * l.length := fun l => by
  induction l with
  | nil => intro s; simp
  | cons e l ih =>
   intro s
   have := ih (s ++ aM e)
   have h := Vl e
   rw [ByteArray.size_append] at this
   simp only [List.foldl_cons, List.length_cons]
   omega
 intro l
 have h := this l ⟨#[]⟩
 have h0 : (⟨#[]⟩ : ByteArray).size = 0 := rfl
 rw [h0] at h
 unfold Hf
 omega
theorem Q8 : ∀ (l : List I7) (s : ByteArray), (M8 s l).size ≤ s.size + 119 * l.length
 | [], s => by simp [M8]
 | e :: l, s => by
  have := Q8 l (s ++ bM e)
  have h := Wm e
  rw [ByteArray.size_append] at this
  show (M8 (s ++ bM e) l).size ≤ _
  simp only [List.length_cons]
  omega
theorem Zh {w : Wd} (h : A6 w = false) : dB w = ⟨#[]⟩ := by unfold dB; rw [if_neg (by rw [h]; simp)]
theorem Rn {w : Wd} (h : A6 w = true) : dB w = M8 (Hf w.log) w.acs := by unfold dB; rw [if_pos h]
theorem fV (s : ByteArray) (e : Pb) : s ++ aM e = s ++ El e.kd ++ ⟨#[32]⟩ ++ Bb e.rm ++ ⟨#[32]⟩ ++ Bb e.bq ++ ⟨#[32]⟩ ++ Bb e.cl ++ ⟨#[32]⟩ ++ Bb e.sv ++ ⟨#[32]⟩ ++ Bb e.ky ++ ⟨#[10]⟩ := by
 unfold aM Ir F0
 simp only [List.foldl_cons, List.foldl_nil, ByteArray.append_assoc]
theorem kS : (⟨#[97, 99, 99, 101, 112, 116, 32]⟩ : ByteArray) = gN ++ ⟨#[32]⟩ := rfl
theorem fT (s : ByteArray) (a : I7) : s ++ bM a = s ++ ⟨#[97, 99, 99, 101, 112, 116, 32]⟩ ++ Bb a.sv ++ ⟨#[32]⟩ ++ Bb a.cl ++ ⟨#[32]⟩ ++ Bb a.op ++ ⟨#[32]⟩ ++ Bb a.nw ++ ⟨#[10]⟩ := by
 rw [kS]
 unfold bM Ir F0
 simp only [List.foldl_cons, List.foldl_nil, ByteArray.append_assoc]
theorem Pp : (⟨#[97, 99, 99, 101, 112, 116, 32]⟩ : ByteArray).size = 7 := rfl
theorem f13 {H : Hp} {w : Wd} {u s l p n t k a c h e x d : Value} (q : T7 H w u s l p n t k a c h e x d) (z : Vk w) : Aw EE 13 [.agg #[u, s, l, p, .int .i64 w.cf.skew, .int .i64 w.now, .int .i64 w.fresh, n, t, k, a, c, h, e, x, d]] H (.string (dB w)) := by
 refine Ag rfl rfl iU (by simp [c13]) rfl fun m hw => ?_
 have a19 := Ax (rA q z)
 have V := q.vcs
 simp only [go_sem, Nat.reduceEqDiff, reduceCtorEq, c13, a19, hw, V]
 cases q0 : A6 w <;> simp only [go_sem, Nat.reduceEqDiff, reduceCtorEq, Nat.reduceLeDiff, Nat.reduceMul, q0, V]
 ·rw [Zh q0]
 obtain ⟨l1, l2, l3, l4⟩ := Kx q0
 have hs5 : Dz (H ++ [[.string ⟨#[]⟩, .string ⟨#[108, 111, 103, 105, 110]⟩, .string ⟨#[105, 115, 115, 117, 101]⟩, .string ⟨#[114, 101, 102, 101, 114]⟩, .string ⟨#[100, 101, 108, 101, 103, 97, 116, 101]⟩]]) (.slice (some ⟨H.length, 0, some 1⟩) 5 5) (⟨#[]⟩ :: nM) := eT (l := ⟨#[]⟩ :: nM) (by decide)
 generalize hHH : H ++ [[.string ⟨#[]⟩, .string ⟨#[108, 111, 103, 105, 110]⟩, .string ⟨#[105, 115, 115, 117, 101]⟩, .string ⟨#[114, 101, 102, 101, 114]⟩, .string ⟨#[100, 101, 108, 101, 103, 97, 116, 101]⟩]] = HH at *
 have hpre : H <+: HH := by rw [← hHH]; exact Eg
 have qq := q.pre hpre
 have hwh := hw.pre hpre
 refine Ak w.log.length (fun i s' => s'.H = HH ∧ (∃ g, s'.ρ 1 = .bx g [u, s, l, p, .int .i64 w.cf.skew, .int .i64 w.now, .int .i64 w.fresh, n, t, k, a, c, h, e, x, d]) ∧ s'.ρ 3 = .val (.slice (some ⟨H.length, 0, some 1⟩) 5 5) ∧ s'.ρ 4 = .val (.string (Hf (w.log.take i))) ∧ s'.ρ 5 = .val (.int .i64 i))
  (fun s' => s'.H = HH ∧ (∃ g, s'.ρ 1 = .bx g [u, s, l, p, .int .i64 w.cf.skew, .int .i64 w.now, .int .i64 w.fresh, n, t, k, a, c, h, e, x, d]) ∧ s'.ρ 4 = .val (.string (Hf w.log))) ?_ ?_ ?_
 ·exact ⟨by first | exact hHH | rfl | (simp [hHH]; done), ⟨_, by simp [Ah, Cb]; rfl⟩, by simp [Ah], by simp [Ah, Hf], by simp [Ah]⟩
 ·rintro i s' hi ⟨hH, ⟨g, k1⟩, k3, k4, k5⟩
  simp only [go_sem, Nat.reduceEqDiff, reduceCtorEq, k1, k3, k4, k5, qq.log.len]
  cases c1 : decide ((i : Int) < (w.log.length : Int)) <;> simp only [go_sem, Nat.reduceEqDiff, reduceCtorEq, k1, k3, k4, k5, c1]
  ·rw [List.take_of_length_le (by have := Au c1; omega)]
   exact ⟨hH, ⟨_, rfl⟩, rfl⟩
  have hil : i < w.log.length := by have := As c1; omega
  have w1 := Ab ((i : Int) + 1) (by omega) (by omega)
  obtain ⟨id, b, o, ho, hr, hb, hia⟩ := qq.log.elem (B7 hil)
  have hr : (o.drop b).take 11 = Rt w.log[i] := hr
  unfold Rt at hr
  have hn := Ny (w.log.take i)
  rw [List.length_take] at hn
  have hk := Nx w.log[i].kd
  have d0 := Dq w.log[i].rm
  have d1 := Dq w.log[i].bq
  have d2 := Dq w.log[i].cl
  have d3 := Dq w.log[i].sv
  have d4 := Dq w.log[i].ky
  have z0 : (Hf (w.log.take i)).size + (El w.log[i].kd).size ≤ 9223372036854775807 := by (try simp only [ByteArray.size_append, Fu, Pp]); omega
  have z1 : (Hf (w.log.take i) ++ El w.log[i].kd).size + ((⟨#[32]⟩ : ByteArray)).size ≤ 9223372036854775807 := by (try simp only [ByteArray.size_append, Fu, Pp]); omega
  have z2 : (Hf (w.log.take i) ++ El w.log[i].kd ++ (⟨#[32]⟩ : ByteArray)).size + (Bb w.log[i].rm).size ≤ 9223372036854775807 := by (try simp only [ByteArray.size_append, Fu, Pp]); omega
  have z3 : (Hf (w.log.take i) ++ El w.log[i].kd ++ (⟨#[32]⟩ : ByteArray) ++ Bb w.log[i].rm).size + ((⟨#[32]⟩ : ByteArray)).size ≤ 9223372036854775807 := by (try simp only [ByteArray.size_append, Fu, Pp]); omega
  have z4 : (Hf (w.log.take i) ++ El w.log[i].kd ++ (⟨#[32]⟩ : ByteArray) ++ Bb w.log[i].rm ++ (⟨#[32]⟩ : ByteArray)).size + (Bb w.log[i].bq).size ≤ 9223372036854775807 := by (try simp only [ByteArray.size_append, Fu, Pp]); omega
  have z5 : (Hf (w.log.take i) ++ El w.log[i].kd ++ (⟨#[32]⟩ : ByteArray) ++ Bb w.log[i].rm ++ (⟨#[32]⟩ : ByteArray) ++ Bb w.log[i].bq).size + ((⟨#[32]⟩ : ByteArray)).size ≤ 9223372036854775807 := by (try simp only [ByteArray.size_append, Fu, Pp]); omega
  have z6 : (Hf (w.log.take i) ++ El w.log[i].kd ++ (⟨#[32]⟩ : ByteArray) ++ Bb w.log[i].rm ++ (⟨#[32]⟩ : ByteArray) ++ Bb w.log[i].bq ++ (⟨#[32]⟩ : ByteArray)).size + (Bb w.log[i].cl).size ≤ 9223372036854775807 := by (try simp only [ByteArray.size_append, Fu, Pp]); omega
  have z7 : (Hf (w.log.take i) ++ El w.log[i].kd ++ (⟨#[32]⟩ : ByteArray) ++ Bb w.log[i].rm ++ (⟨#[32]⟩ : ByteArray) ++ Bb w.log[i].bq ++ (⟨#[32]⟩ : ByteArray) ++ Bb w.log[i].cl).size + ((⟨#[32]⟩ : ByteArray)).size ≤ 9223372036854775807 := by (try simp only [ByteArray.size_append, Fu, Pp]); omega
  have z8 : (Hf (w.log.take i) ++ El w.log[i].kd ++ (⟨#[32]⟩ : ByteArray) ++ Bb w.log[i].rm ++ (⟨#[32]⟩ : ByteArray) ++ Bb w.log[i].bq ++ (⟨#[32]⟩ : ByteArray) ++ Bb w.log[i].cl ++ (⟨#[32]⟩ : ByteArray)).size + (Bb w.log[i].sv).size ≤ 9223372036854775807 := by (try simp only [ByteArray.size_append, Fu, Pp]); omega
  have z9 : (Hf (w.log.take i) ++ El w.log[i].kd ++ (⟨#[32]⟩ : ByteArray) ++ Bb w.log[i].rm ++ (⟨#[32]⟩ : ByteArray) ++ Bb w.log[i].bq ++ (⟨#[32]⟩ : ByteArray) ++ Bb w.log[i].cl ++ (⟨#[32]⟩ : ByteArray) ++ Bb w.log[i].sv).size + ((⟨#[32]⟩ : ByteArray)).size ≤ 9223372036854775807 := by (try simp only [ByteArray.size_append, Fu, Pp]); omega
  have z10 : (Hf (w.log.take i) ++ El w.log[i].kd ++ (⟨#[32]⟩ : ByteArray) ++ Bb w.log[i].rm ++ (⟨#[32]⟩ : ByteArray) ++ Bb w.log[i].bq ++ (⟨#[32]⟩ : ByteArray) ++ Bb w.log[i].cl ++ (⟨#[32]⟩ : ByteArray) ++ Bb w.log[i].sv ++ (⟨#[32]⟩ : ByteArray)).size + (Bb w.log[i].ky).size ≤ 9223372036854775807 := by (try simp only [ByteArray.size_append, Fu, Pp]); omega
  have z11 : (Hf (w.log.take i) ++ El w.log[i].kd ++ (⟨#[32]⟩ : ByteArray) ++ Bb w.log[i].rm ++ (⟨#[32]⟩ : ByteArray) ++ Bb w.log[i].bq ++ (⟨#[32]⟩ : ByteArray) ++ Bb w.log[i].cl ++ (⟨#[32]⟩ : ByteArray) ++ Bb w.log[i].sv ++ (⟨#[32]⟩ : ByteArray) ++ Bb w.log[i].ky).size + ((⟨#[10]⟩ : ByteArray)).size ≤ 9223372036854775807 := by (try simp only [ByteArray.size_append, Fu, Pp]); omega
  have a0 := Ax (eE (H := HH) (n := w.log[i].rm))
  have a1 := Ax (eE (H := HH) (n := w.log[i].bq))
  have a2 := Ax (eE (H := HH) (n := w.log[i].cl))
  have a3 := Ax (eE (H := HH) (n := w.log[i].sv))
  have a4 := Ax (eE (H := HH) (n := w.log[i].ky))
  simp only [go_sem, Nat.reduceEqDiff, reduceCtorEq, k1, k3, k4, k5, hia, hH, ho, hr, hb, Cu, hwh]
  refine Bq (fun t' => t'.H = HH ∧ (∃ g, t'.ρ 1 = .bx g [u, s, l, p, .int .i64 w.cf.skew, .int .i64 w.now, .int .i64 w.fresh, n, t, k, a, c, h, e, x, d]) ∧ t'.ρ 3 = .val (.slice (some ⟨H.length, 0, some 1⟩) 5 5) ∧ t'.ρ 4 = .val (.string (Hf (w.log.take i))) ∧ t'.ρ 5 = .val (.int .i64 i) ∧ (∃ g, t'.ρ 6 = .bx g (Rt w.log[i])) ∧ t'.ρ 7 = .val (.string (El w.log[i].kd))) (fun q1 => ?_) (fun q1 => ?_) fun t' ⟨tH, ⟨g', t1⟩, t3, t4, t5, ⟨g6, t6⟩, t7⟩ => ?_
  ·obtain ⟨j, hj, hj4, _, hg⟩ := Y5 q1
   obtain ⟨id2, p2, o2, ho2, hr2, hia2⟩ := hs5.str hg
   have hj' : (j : Int) + 1 = ((j + 1 : Nat) : Int) := by omega
   rw [hj'] at hj
   simp only [go_sem, Nat.reduceEqDiff, reduceCtorEq, k1, k3, k4, k5, hj, hia2, ho2, hr2, hH]
   rw [← hj]
   try exact ⟨⟨_, rfl⟩, ⟨_, rfl⟩⟩
  ·rw [Ya q1]
   simp only [go_sem, Nat.reduceEqDiff, reduceCtorEq, k1, k3, k4, k5, hH]
   try exact ⟨⟨_, rfl⟩, ⟨_, rfl⟩⟩
  unfold Rt at t6
  refine Af ?_
  simp only [go_sem, Nat.reduceEqDiff, reduceCtorEq, t1, t3, t4, t5, t6, t7, tH, a0, a1, a2, a3, a4, hwh, z0, z1, z2, z3, z4, z5, z6, z7, z8, z9, z10, z11]
  refine ⟨by rfl, ?_⟩
  simp only [go_sem, Nat.reduceEqDiff, reduceCtorEq, t1, t3, t5, tH, w1]
  rw [Ws hil, fV]
  exact ⟨hil, ⟨_, rfl⟩, rfl, by simp⟩
 rintro s' ⟨hH, ⟨g, k1⟩, k4⟩
 simp only [go_sem, Nat.reduceEqDiff, reduceCtorEq, k1, k4]
 refine Ak w.acs.length (fun i s' => s'.H = HH ∧ (∃ g, s'.ρ 1 = .bx g [u, s, l, p, .int .i64 w.cf.skew, .int .i64 w.now, .int .i64 w.fresh, n, t, k, a, c, h, e, x, d]) ∧ s'.ρ 4 = .val (.string (M8 (Hf w.log) (w.acs.take i))) ∧ s'.ρ 8 = .val (.int .i64 i))
  (fun s' => s'.H = HH ∧ s'.ρ 4 = .val (.string (M8 (Hf w.log) w.acs))) ?_ ?_ ?_
 ·exact ⟨hH, ⟨g, by simp [Ah, k1]⟩, by simp [Ah, k4, M8], by simp [Ah]⟩
 ·rintro i s' hi ⟨hH, ⟨g, k1⟩, k4, k8⟩
  simp only [go_sem, Nat.reduceEqDiff, reduceCtorEq, k1, k4, k8, qq.acs.len]
  cases c1 : decide ((i : Int) < (w.acs.length : Int)) <;> simp only [go_sem, Nat.reduceEqDiff, reduceCtorEq, k1, k4, k8, c1]
  ·rw [List.take_of_length_le (by have := Au c1; omega)]
   exact ⟨hH, rfl⟩
  have hil : i < w.acs.length := by have := As c1; omega
  have w1 := Ab ((i : Int) + 1) (by omega) (by omega)
  obtain ⟨id, b, o, ho, ⟨pp, pv, hr, hs1, hs2⟩, hb, hia⟩ := qq.acs.elem (B7 hil)
  have hn1 := Ny w.log
  have hn := Q8 (w.acs.take i) (Hf w.log)
  rw [List.length_take] at hn
  have d0 := Dq w.acs[i].sv
  have d1 := Dq w.acs[i].cl
  have d2 := Dq w.acs[i].op
  have d3 := Dq w.acs[i].nw
  have z0 : (M8 (Hf w.log) (w.acs.take i)).size + ((⟨#[97, 99, 99, 101, 112, 116, 32]⟩ : ByteArray)).size ≤ 9223372036854775807 := by (try simp only [ByteArray.size_append, Fu, Pp]); omega
  have z1 : (M8 (Hf w.log) (w.acs.take i) ++ (⟨#[97, 99, 99, 101, 112, 116, 32]⟩ : ByteArray)).size + (Bb w.acs[i].sv).size ≤ 9223372036854775807 := by (try simp only [ByteArray.size_append, Fu, Pp]); omega
  have z2 : (M8 (Hf w.log) (w.acs.take i) ++ (⟨#[97, 99, 99, 101, 112, 116, 32]⟩ : ByteArray) ++ Bb w.acs[i].sv).size + ((⟨#[32]⟩ : ByteArray)).size ≤ 9223372036854775807 := by (try simp only [ByteArray.size_append, Fu, Pp]); omega
  have z3 : (M8 (Hf w.log) (w.acs.take i) ++ (⟨#[97, 99, 99, 101, 112, 116, 32]⟩ : ByteArray) ++ Bb w.acs[i].sv ++ (⟨#[32]⟩ : ByteArray)).size + (Bb w.acs[i].cl).size ≤ 9223372036854775807 := by (try simp only [ByteArray.size_append, Fu, Pp]); omega
  have z4 : (M8 (Hf w.log) (w.acs.take i) ++ (⟨#[97, 99, 99, 101, 112, 116, 32]⟩ : ByteArray) ++ Bb w.acs[i].sv ++ (⟨#[32]⟩ : ByteArray) ++ Bb w.acs[i].cl).size + ((⟨#[32]⟩ : ByteArray)).size ≤ 9223372036854775807 := by (try simp only [ByteArray.size_append, Fu, Pp]); omega
  have z5 : (M8 (Hf w.log) (w.acs.take i) ++ (⟨#[97, 99, 99, 101, 112, 116, 32]⟩ : ByteArray) ++ Bb w.acs[i].sv ++ (⟨#[32]⟩ : ByteArray) ++ Bb w.acs[i].cl ++ (⟨#[32]⟩ : ByteArray)).size + (Bb w.acs[i].op).size ≤ 9223372036854775807 := by (try simp only [ByteArray.size_append, Fu, Pp]); omega
  have z6 : (M8 (Hf w.log) (w.acs.take i) ++ (⟨#[97, 99, 99, 101, 112, 116, 32]⟩ : ByteArray) ++ Bb w.acs[i].sv ++ (⟨#[32]⟩ : ByteArray) ++ Bb w.acs[i].cl ++ (⟨#[32]⟩ : ByteArray) ++ Bb w.acs[i].op).size + ((⟨#[32]⟩ : ByteArray)).size ≤ 9223372036854775807 := by (try simp only [ByteArray.size_append, Fu, Pp]); omega
  have z7 : (M8 (Hf w.log) (w.acs.take i) ++ (⟨#[97, 99, 99, 101, 112, 116, 32]⟩ : ByteArray) ++ Bb w.acs[i].sv ++ (⟨#[32]⟩ : ByteArray) ++ Bb w.acs[i].cl ++ (⟨#[32]⟩ : ByteArray) ++ Bb w.acs[i].op ++ (⟨#[32]⟩ : ByteArray)).size + (Bb w.acs[i].nw).size ≤ 9223372036854775807 := by (try simp only [ByteArray.size_append, Fu, Pp]); omega
  have z8 : (M8 (Hf w.log) (w.acs.take i) ++ (⟨#[97, 99, 99, 101, 112, 116, 32]⟩ : ByteArray) ++ Bb w.acs[i].sv ++ (⟨#[32]⟩ : ByteArray) ++ Bb w.acs[i].cl ++ (⟨#[32]⟩ : ByteArray) ++ Bb w.acs[i].op ++ (⟨#[32]⟩ : ByteArray) ++ Bb w.acs[i].nw).size + ((⟨#[10]⟩ : ByteArray)).size ≤ 9223372036854775807 := by (try simp only [ByteArray.size_append, Fu, Pp]); omega
  have a0 := Ax (eE (H := HH) (n := w.acs[i].sv))
  have a1 := Ax (eE (H := HH) (n := w.acs[i].cl))
  have a2 := Ax (eE (H := HH) (n := w.acs[i].op))
  have a3 := Ax (eE (H := HH) (n := w.acs[i].nw))
  simp only [go_sem, Nat.reduceEqDiff, reduceCtorEq, k1, k4, k8, hia, hH, ho, hr, hb]
  refine Af ?_
  simp only [go_sem, Nat.reduceEqDiff, reduceCtorEq, k1, k4, k8, a0, a1, a2, a3, hwh, z0, z1, z2, z3, z4, z5, z6, z7, z8]
  refine ⟨by rfl, ?_⟩
  simp only [go_sem, Nat.reduceEqDiff, reduceCtorEq, k1, k8, hH, w1]
  rw [Wq hil, fT]
  exact ⟨hil, ⟨_, rfl⟩, rfl, by simp⟩
 rintro s' ⟨hH, k4⟩
 simp only [go_sem, Nat.reduceEqDiff, reduceCtorEq, k4, hH]
 rw [Rn q0]
 exact ⟨rfl, (List.prefix_iff_eq_take.1 hpre).symm⟩
theorem f14 {H : Hp} {w : Wd} {u s l p n t k a c h e x d : Value} (q : T7 H w u s l p n t k a c h e x d) (z : Vk w) : Aw EE 14 [.agg #[u, s, l, p, .int .i64 w.cf.skew, .int .i64 w.now, .int .i64 w.fresh, n, t, k, a, c, h, e, x, d]] H (.string (dB w)) := by
 refine Ag rfl rfl Il (by simp [c14]) rfl fun m hw => ?_
 have a38 := Ax (yQ q z)
 have V := q.vcs
 simp only [go_sem, Nat.reduceEqDiff, c14, a38, hw, V]
 cases q0 : A6 w <;> simp only [go_sem, Nat.reduceEqDiff, reduceCtorEq, q0, V, q.log.len]
 ·rw [Zh q0]
 obtain ⟨l1, l2, l3, l4⟩ := Kx q0
 refine Ak w.log.length (fun i s' => H <+: s'.H ∧ (∃ g, s'.ρ 1 = .bx g [u, s, l, p, .int .i64 w.cf.skew, .int .i64 w.now, .int .i64 w.fresh, n, t, k, a, c, h, e, x, d]) ∧ s'.ρ 3 = .val (.string (Hf (w.log.take i))) ∧ s'.ρ 12 = .val e ∧ s'.ρ 13 = .val (.int .i64 w.log.length) ∧ s'.ρ 14 = .val (.int .i64 i))
  (fun s' => H <+: s'.H ∧ (∃ g, s'.ρ 1 = .bx g [u, s, l, p, .int .i64 w.cf.skew, .int .i64 w.now, .int .i64 w.fresh, n, t, k, a, c, h, e, x, d]) ∧ s'.ρ 3 = .val (.string (Hf w.log))) ?_ ?_ ?_
 ·exact ⟨List.prefix_refl _, ⟨_, by simp [Ah, Cb]; rfl⟩, by simp [Ah, Hf], by simp [Ah], by simp [Ah], by simp [Ah]⟩
 ·rintro i s' hi ⟨hH, ⟨g, k1⟩, k3, nT, iU, Il⟩
  have qq := q.pre hH
  have hw' := hw.pre hH
  simp only [go_sem, Nat.reduceEqDiff, k1, k3, nT, iU, Il]
  cases c1 : decide ((i : Int) < (w.log.length : Int)) <;> simp only [go_sem, Nat.reduceEqDiff, k1, k3, nT, iU, Il, c1]
  ·rw [List.take_of_length_le (by have := Au c1; omega)]
   exact ⟨hH, ⟨_, rfl⟩, rfl⟩
  have hil : i < w.log.length := by have := As c1; omega
  have w1 := Ab ((i : Int) + 1) (by omega) (by omega)
  obtain ⟨id, b, o, ho, hr, hb, hia⟩ := qq.log.elem (B7 hil)
  have hr : (o.drop b).take 11 = Rt w.log[i] := hr
  unfold Rt at hr
  have hn := Ny (w.log.take i)
  rw [List.length_take] at hn
  have hk := Nx w.log[i].kd
  have hsl : Bu (s'.H ++ [[.int .i64 w.log[i].rm, .int .i64 w.log[i].bq, .int .i64 w.log[i].cl, .int .i64 w.log[i].sv, .int .i64 w.log[i].ky]]) (.slice (some ⟨s'.H.length, 0, some 1⟩) 5 5) [w.log[i].rm, w.log[i].bq, w.log[i].cl, w.log[i].sv, w.log[i].ky] := fG (l := [w.log[i].rm, w.log[i].bq, w.log[i].cl, w.log[i].sv, w.log[i].ky]) (by simp)
  have ak := Ax (f50 (wd := El w.log[i].kd) hsl (by simp) (by omega))
  have hw2 : Wr m (s'.H ++ [[.int .i64 w.log[i].rm, .int .i64 w.log[i].bq, .int .i64 w.log[i].cl, .int .i64 w.log[i].sv, .int .i64 w.log[i].ky]]) := hw'.pre (Eg)
  have hz : (Hf (w.log.take i)).size + (Ir (El w.log[i].kd) [w.log[i].rm, w.log[i].bq, w.log[i].cl, w.log[i].sv, w.log[i].ky]).size ≤ 9223372036854775807 := by have := Vl w.log[i]; unfold aM at this; omega
  have hp : Mi 51 [.int .i64 w.log[i].kd] = some (.string (El w.log[i].kd)) := rfl
  simp only [go_sem, Nat.reduceEqDiff, reduceCtorEq, k1, k3, nT, iU, Il, hia, ho, hr, hb]
  refine Af ?_
  simp only [go_sem, Nat.reduceEqDiff, reduceCtorEq, Nat.reduceLeDiff, Nat.reduceMul, k1, k3, nT, iU, Il, Qj, hp, ak, hw2, hz]
  refine ⟨by rfl, ?_⟩
  simp only [go_sem, Nat.reduceEqDiff, reduceCtorEq, k1, nT, iU, Il, w1]
  rw [Ws hil]
  exact ⟨hil, hH.trans (Eg), ⟨_, rfl⟩, rfl, by simp⟩
 rintro s' ⟨hH, ⟨g, k1⟩, k3⟩
 simp only [go_sem, Nat.reduceEqDiff, reduceCtorEq, k1, k3, q.acs.len]
 refine Ak w.acs.length (fun i s' => H <+: s'.H ∧ (∃ g, s'.ρ 1 = .bx g [u, s, l, p, .int .i64 w.cf.skew, .int .i64 w.now, .int .i64 w.fresh, n, t, k, a, c, h, e, x, d]) ∧ s'.ρ 3 = .val (.string (M8 (Hf w.log) (w.acs.take i))) ∧ s'.ρ 37 = .val x ∧ s'.ρ 38 = .val (.int .i64 w.acs.length) ∧ s'.ρ 39 = .val (.int .i64 i))
  (fun s' => H <+: s'.H ∧ s'.ρ 3 = .val (.string (M8 (Hf w.log) w.acs))) ?_ ?_ ?_
 ·exact ⟨hH, ⟨g, by simp [Ah, k1]⟩, by simp [Ah, k3, M8], by simp [Ah], by simp [Ah], by simp [Ah]⟩
 ·rintro i s' hi ⟨hH, ⟨g, k1⟩, k3, rJ, qQ, qX⟩
  have qq := q.pre hH
  have hw' := hw.pre hH
  simp only [go_sem, Nat.reduceEqDiff, reduceCtorEq, k1, k3, rJ, qQ, qX]
  cases c1 : decide ((i : Int) < (w.acs.length : Int)) <;> simp only [go_sem, Nat.reduceEqDiff, reduceCtorEq, k1, k3, rJ, qQ, qX, c1]
  ·rw [List.take_of_length_le (by have := Au c1; omega)]
   exact ⟨hH, rfl⟩
  have hil : i < w.acs.length := by have := As c1; omega
  have w1 := Ab ((i : Int) + 1) (by omega) (by omega)
  obtain ⟨id, b, o, ho, ⟨pp, pv, hr, hs1, hs2⟩, hb, hia⟩ := qq.acs.elem (B7 hil)
  have hn1 := Ny w.log
  have hn := Q8 (w.acs.take i) (Hf w.log)
  rw [List.length_take] at hn
  have hsl : Bu (s'.H ++ [[.int .i64 w.acs[i].sv, .int .i64 w.acs[i].cl, .int .i64 w.acs[i].op, .int .i64 w.acs[i].nw]]) (.slice (some ⟨s'.H.length, 0, some 1⟩) 4 4) [w.acs[i].sv, w.acs[i].cl, w.acs[i].op, w.acs[i].nw] := fG (l := [w.acs[i].sv, w.acs[i].cl, w.acs[i].op, w.acs[i].nw]) (by simp)
  have ak := Ax (f50 (wd := gN) hsl (by simp) (by decide))
  have hac : gN = ⟨#[97, 99, 99, 101, 112, 116]⟩ := rfl
  have hw2 : Wr m (s'.H ++ [[.int .i64 w.acs[i].sv, .int .i64 w.acs[i].cl, .int .i64 w.acs[i].op, .int .i64 w.acs[i].nw]]) := hw'.pre (Eg)
  have hz : (M8 (Hf w.log) (w.acs.take i)).size + (Ir gN [w.acs[i].sv, w.acs[i].cl, w.acs[i].op, w.acs[i].nw]).size ≤ 9223372036854775807 := by have := Wm w.acs[i]; unfold bM at this; omega
  rw [hac] at ak hz
  simp only [go_sem, Nat.reduceEqDiff, reduceCtorEq, Nat.reduceLeDiff, Nat.reduceMul, k1, k3, rJ, qQ, qX, hia, ho, hr, hb, ak, hw2, hz, w1]
  rw [Wq hil, ← hac]
  exact ⟨hil, hH.trans (Eg), ⟨_, rfl⟩, rfl, by simp⟩
 rintro s' ⟨hH, k3⟩
 simp only [go_sem, k3]
 rw [Rn q0]
 exact ⟨rfl, (List.prefix_iff_eq_take.1 hH).symm⟩
def sc (q : Int) (l : List I7) : Int := ((l.countP fun a => decide (a.sv = q) : Nat) : Int)
theorem Vy {q : Int} {l : List I7} : 0 ≤ sc q l ∧ sc q l ≤ l.length := by
 unfold sc
 have := List.countP_le_length (p := fun e : I7 => decide (e.sv = q)) (l := l)
 omega
theorem Rg {q : Int} {l : List I7} {i : Nat} (h : i < l.length) (h2 : l[i].sv = q) : sc q (l.take (i + 1)) = sc q (l.take i) + 1 := by
 unfold sc
 rw [List.take_succ_eq_append_getElem h, List.countP_append]
 simp [h2]
theorem N9 {q : Int} {l : List I7} {i : Nat} (h : i < l.length) (h2 : ¬ l[i].sv = q) : sc q (l.take (i + 1)) = sc q (l.take i) := by
 unfold sc
 rw [List.take_succ_eq_append_getElem h, List.countP_append]
 simp [h2]
theorem lG {l : List I7} {i : Nat} (h : i < l.length) : 0 < sc l[i].sv l := by
 unfold sc
 have : 0 < l.countP fun a => decide (a.sv = l[i].sv) := List.countP_pos_iff.2 ⟨_, List.getElem_mem h, by simp⟩
 omega
theorem bY {q : Int} {l : List I7} (h : ∀ i, (hi : i < l.length) → l[i].sv ≠ q) : sc q l = 0 := by
 unfold sc
 have : (l.countP fun a => decide (a.sv = q)) = 0 := List.countP_eq_zero.2 fun a ha => by
  obtain ⟨i, hi, rfl⟩ := List.getElem_of_mem ha
  simpa using h i hi
 omega
def Xp (c0 c1 : Int) : Int := if c1 > c0 then 1 else 0
def Ue (c0 c1 c2 : Int) : Int := if c2 > (if c1 > c0 then c1 else c0) then 2 else Xp c0 c1
noncomputable def bz (w : Wd) : Int := if A6 w = true ∧ 0 < w.acs.length then Ue (sc 0 w.acs) (sc 1 w.acs) (sc 2 w.acs) else -1
theorem O7 {w : Wd} (h : ¬ (A6 w = true ∧ 0 < w.acs.length)) : bz w = -1 := by unfold bz; rw [if_neg h]
theorem Up {w : Wd} (h : A6 w = true) (h2 : 0 < w.acs.length) : bz w = Ue (sc 0 w.acs) (sc 1 w.acs) (sc 2 w.acs) := by unfold bz; rw [if_pos ⟨h, h2⟩]
theorem fH {w : Wd} (h : A6 w = true) {i : Nat} (hi : i < w.acs.length) : 0 ≤ w.acs[i].sv ∧ w.acs[i].sv ≤ 2 := by
 have := List.all_eq_true.1 (Kx h).2.2.2 _ (List.getElem_mem hi)
 unfold E1 at this
 simp only [Bool.and_eq_true] at this
 exact Bz.1 this.1
def nK (l : List I7) (i : Nat) (best most : Int) : Prop := (i = 0 ∧ best = -1 ∧ most = 0) ∨
 (0 < i ∧ 0 < most ∧ (∀ j, j < i → (h : j < l.length) → sc l[j].sv l ≤ most ∧ (sc l[j].sv l = most → best ≤ l[j].sv)) ∧ ∃ j, j < i ∧ ∃ h : j < l.length, l[j].sv = best ∧ sc best l = most)
theorem nK.step {l : List I7} {i : Nat} {best most : Int} (h : nK l i best most) (hi : i < l.length) : nK l (i + 1) (if sc l[i].sv l > most ∨ sc l[i].sv l = most ∧ l[i].sv < best then l[i].sv else best) (if sc l[i].sv l > most ∨ sc l[i].sv l = most ∧ l[i].sv < best then sc l[i].sv l else most) := by
 have hp := lG hi
 right
 rcases h with ⟨rfl, rfl, rfl⟩ | ⟨h0, hm, h1, j, hj, hjl, e1, e2⟩
 ·rw [if_pos (.inl hp), if_pos (.inl hp)]
  refine ⟨by omega, hp, fun j hj hjl => ?_, 0, by omega, hi, rfl, rfl⟩
  have : j = 0 := by omega
  subst this
  exact ⟨Int.le_refl _, fun _ => Int.le_refl _⟩
 ·split
  ·rename_i hc
   refine ⟨by omega, by omega, fun k hk hkl => ?_, i, by omega, hi, rfl, rfl⟩
   by_cases e : k = i
   ·subst e; exact ⟨Int.le_refl _, fun _ => Int.le_refl _⟩
   ·obtain ⟨a1, a2⟩ := h1 k (by omega) hkl
    refine ⟨by omega, fun e3 => ?_⟩
    rcases hc with hc | ⟨hc1, hc2⟩
    ·omega
    ·have := a2 (by omega); omega
  ·rename_i hc
   refine ⟨by omega, hm, fun k hk hkl => ?_, j, by omega, hjl, e1, e2⟩
   by_cases e : k = i
   ·subst e; exact ⟨by omega, fun e3 => by omega⟩
   ·exact h1 k (by omega) hkl
theorem nK.fin {w : Wd} {best most : Int} (h : nK w.acs w.acs.length best most) (hw : A6 w = true) : best = bz w := by
 rcases h with ⟨h0, rfl, _⟩ | ⟨h0, hm, h1, j, hj, hjl, e1, e2⟩
 ·rw [O7 (fun h => by omega)]
 ·rw [Up hw h0]
  have hin := fH hw hjl
  have any : ∀ q : Int, sc q w.acs ≤ most ∧ (sc q w.acs = most → best ≤ q) := fun q => by
   by_cases e : ∃ i, ∃ hi : i < w.acs.length, w.acs[i].sv = q
   ·obtain ⟨i, hi, rfl⟩ := e
    exact h1 i hi hi
   ·have := bY (l := w.acs) (q := q) fun i hi e3 => e ⟨i, hi, e3⟩
    exact ⟨by omega, fun e3 => by omega⟩
  have a0 := any 0; have a1 := any 1; have a2 := any 2
  unfold Ue Xp
  rw [e1] at hin
  have hb : best = 0 ∨ best = 1 ∨ best = 2 := by omega
  rcases hb with rfl | rfl | rfl
  ·rw [if_neg (by split <;> omega), if_neg (by omega)]
  ·rw [if_neg (by split <;> omega), if_pos (by omega)]
  ·rw [if_pos (by split <;> omega)]
theorem f15 {H : Hp} {w : Wd} {u s l p n t k a c h e x d : Value} (q : T7 H w u s l p n t k a c h e x d) (z : Vk w) : Aw EE 15 [.agg #[u, s, l, p, .int .i64 w.cf.skew, .int .i64 w.now, .int .i64 w.fresh, n, t, k, a, c, h, e, x, d]] H (.int .i64 (bz w)) := by
 refine Ag rfl rfl Ks (by simp [c15]) rfl fun m hw => ?_
 have hroom := q.acs.room
 have a19 := Ax (rA q z)
 have V := q.vcs
 have one : IntKind.i64.wrap (0 - 1) = -1 := rfl
 simp only [go_sem, Nat.reduceEqDiff, reduceCtorEq, c15, V]
 refine Ak w.acs.length (fun i s' => s'.H = H ∧ (∃ g, s'.ρ 1 = .bx g [u, s, l, p, .int .i64 w.cf.skew, .int .i64 w.now, .int .i64 w.fresh, n, t, k, a, c, h, e, x, d]) ∧ s'.ρ 5 = .val (.int .i64 i) ∧ ∃ best most : Int, s'.ρ 3 = .val (.int .i64 best) ∧ s'.ρ 4 = .val (.int .i64 most) ∧ (0 < i → A6 w = true) ∧ nK w.acs i best most)
  (fun s' => s'.H = H ∧ s'.ρ 3 = .val (.int .i64 (bz w))) ?_ ?_ ?_
 ·exact ⟨rfl, ⟨_, by simp [Ah, Cb]; rfl⟩, by simp [Ah], -1, 0, by simp [Ah], by simp [Ah], fun h => by omega, .inl ⟨rfl, rfl, rfl⟩⟩
 ·rintro i s' hi ⟨hH, ⟨g, k1⟩, k5, best, most, k3, k4, hok, hB⟩
  simp only [go_sem, Nat.reduceEqDiff, reduceCtorEq, k1, k3, k4, k5, q.acs.len]
  cases c1 : decide ((i : Int) < (w.acs.length : Int)) <;> simp only [go_sem, Nat.reduceEqDiff, reduceCtorEq, k1, k3, k4, k5, c1, V, hH, a19, hw]
  ·have hil : i = w.acs.length := by have := Au c1; omega
   subst hil
   by_cases h0 : 0 < w.acs.length
   ·rw [hB.fin (hok h0)]
   ·rw [O7 (fun h => h0 h.2)]
    rcases hB with ⟨_, rfl, _⟩ | ⟨h, _⟩
    ·rfl
    ·omega
  have hil : i < w.acs.length := by have := As c1; omega
  have w1 := Ab ((i : Int) + 1) (by omega) (by omega)
  cases q0 : A6 w <;> simp only [go_sem, Nat.reduceEqDiff, reduceCtorEq, k1, k3, k4, k5, q0, V, hH]
  ·rw [O7 (fun h => by rw [q0] at h; exact absurd h.1 (by simp))]
   rcases hB with ⟨_, rfl, _⟩ | ⟨h, _⟩
   ·rfl
   ·have := hok h; rw [q0] at this; cases this
  obtain ⟨id, b, o, ho, ⟨pp, pv, hr, hs1, hs2⟩, hb, hia⟩ := q.acs.elem (B7 hil)
  have g0 : o[b]? = some (.int .i64 w.acs[i].sv) := by simpa using Al hr (j := 0) (by omega)
  simp only [go_sem, Nat.reduceEqDiff, reduceCtorEq, k1, k3, k4, k5, hia, hH, ho, g0]
  refine Ak w.acs.length (fun j s' => s'.H = H ∧ (∃ g, s'.ρ 1 = .bx g [u, s, l, p, .int .i64 w.cf.skew, .int .i64 w.now, .int .i64 w.fresh, n, t, k, a, c, h, e, x, d]) ∧ s'.ρ 5 = .val (.int .i64 i) ∧ s'.ρ 3 = .val (.int .i64 best) ∧ s'.ρ 4 = .val (.int .i64 most) ∧ s'.ρ 6 = .val (.int .i64 w.acs[i].sv) ∧ s'.ρ 8 = .val (.int .i64 j) ∧ s'.ρ 7 = .val (.int .i64 (sc w.acs[i].sv (w.acs.take j))))
   (fun s' => s'.H = H ∧ (∃ g, s'.ρ 1 = .bx g [u, s, l, p, .int .i64 w.cf.skew, .int .i64 w.now, .int .i64 w.fresh, n, t, k, a, c, h, e, x, d]) ∧ s'.ρ 5 = .val (.int .i64 i) ∧ s'.ρ 3 = .val (.int .i64 best) ∧ s'.ρ 4 = .val (.int .i64 most) ∧ s'.ρ 6 = .val (.int .i64 w.acs[i].sv) ∧ s'.ρ 7 = .val (.int .i64 (sc w.acs[i].sv w.acs))) ?_ ?_ ?_
  ·exact ⟨rfl, ⟨_, by simp [Ah, k1]; rfl⟩, by simp [Ah, k5], by simp [Ah, k3], by simp [Ah, k4], by simp [Ah], by simp [Ah], by simp [Ah, sc]⟩
  ·rintro j s' hj ⟨hH, ⟨g, k1⟩, k5, k3, k4, k6, k8, k7⟩
   simp only [go_sem, Nat.reduceEqDiff, reduceCtorEq, k1, k3, k4, k5, k6, k7, k8, q.acs.len]
   cases c2 : decide ((j : Int) < (w.acs.length : Int)) <;> simp only [go_sem, Nat.reduceEqDiff, reduceCtorEq, k1, k3, k4, k5, k6, k7, k8, c2, hH]
   ·rw [List.take_of_length_le (by have := Au c2; omega)]
    exact ⟨⟨_, rfl⟩, rfl⟩
   have hjl : j < w.acs.length := by have := As c2; omega
   have w2 := Ab ((j : Int) + 1) (by omega) (by omega)
   obtain ⟨id2, b2, o2, ho2, ⟨pp2, pv2, hr2, _, _⟩, hb2, hia2⟩ := q.acs.elem (B7 hjl)
   have g2 : o2[b2]? = some (.int .i64 w.acs[j].sv) := by simpa using Al hr2 (j := 0) (by omega)
   have hsc := Vy (q := w.acs[i].sv) (l := w.acs.take j)
   rw [List.length_take] at hsc
   have w3 := Ab (sc w.acs[i].sv (w.acs.take j) + 1) (by omega) (by omega)
   simp only [go_sem, Nat.reduceEqDiff, reduceCtorEq, k1, k3, k4, k5, k6, k7, k8, hia2, hH, ho2, g2]
   cases q3 : decide (w.acs[j].sv = w.acs[i].sv) <;> simp only [go_sem, Nat.reduceEqDiff, reduceCtorEq, k1, k3, k4, k5, k6, k7, k8, q3, w2, w3, hH]
   ·rw [N9 hjl (Au q3)]
    exact ⟨hjl, ⟨_, rfl⟩, by simp, rfl⟩
   ·rw [Rg hjl (As q3)]
    exact ⟨hjl, ⟨_, rfl⟩, by simp, rfl⟩
  ·rintro s' ⟨hH, ⟨g, k1⟩, k5, k3, k4, k6, k7⟩
   have hst := hB.step hil
   simp only [go_sem, Nat.reduceEqDiff, reduceCtorEq, k1, k3, k4, k5, k6, k7]
   cases q4 : decide (sc w.acs[i].sv w.acs > most) <;> simp only [go_sem, Nat.reduceEqDiff, reduceCtorEq, k1, k3, k4, k5, k6, k7, q4]
   ·have n4 := Au q4
    cases q5 : decide (sc w.acs[i].sv w.acs = most) <;> simp only [go_sem, Nat.reduceEqDiff, reduceCtorEq, k1, k3, k4, k5, k6, k7, q5, w1, hH]
    ·have n5 := Au q5
     rw [if_neg (by omega), if_neg (by omega)] at hst
     exact ⟨hil, ⟨_, rfl⟩, by simp, best, most, rfl, rfl, hst⟩
    ·have n5 := As q5
     cases q6 : decide (w.acs[i].sv < best) <;> simp only [go_sem, Nat.reduceEqDiff, k1, k3, k4, k5, k6, k7, q6, w1, hH]
     ·have n6 := Au q6
      rw [if_neg (by omega), if_neg (by omega)] at hst
      exact ⟨hil, ⟨_, rfl⟩, by simp, best, most, rfl, rfl, hst⟩
     ·have n6 := As q6
      rw [if_pos (by omega), if_pos (by omega)] at hst
      exact ⟨hil, ⟨_, rfl⟩, by simp, _, _, rfl, rfl, hst⟩
   ·have n4 := As q4
    simp only [go_sem, k1, k3, k4, k5, k6, k7, w1, hH]
    rw [if_pos (by omega), if_pos (by omega)] at hst
    exact ⟨hil, ⟨_, rfl⟩, by simp, _, _, rfl, rfl, hst⟩
 ·rintro s' ⟨hH, k3⟩
  simp only [go_sem, k3, hH]
theorem Jj {len t g : Nat} {cs : List Value} (j : Nat) (hj : j < len) : ∀ (s : St) (y : X), s.ρ t = .bx g cs → Av s.ρ y = some (.int .i64 (j : Int)) → Kl s len 1 (.t t) y = some (.vp t g j, s) := fun s y h1 h2 => by
 unfold Kl
 rw [h2]
 simp only [Jz, ex, h1, Ad.live, decide_true, true_and]
 rw [if_pos (by omega)]
 simp [Ad.fv]
theorem Rr {n : Nat} {cs : Array Value} {v : Value} (j : Nat) (hj : j < n) (hc : cs[j]? = some v) : ∀ (s : St) (x y : X), Av s.ρ x = some (.agg cs) → Av s.ρ y = some (.int .i64 (j : Int)) → O3 s n x y = some (.val v, s) := fun s x y h1 h2 => by
 unfold O3
 rw [h1, h2]
 simp only
 rw [if_pos (by omega)]
 simp [hc, Bd]
def pI (c0 c1 c2 : Int) : Nat → Int
 | 0 => 0
 | 1 => 0
 | 2 => Xp c0 c1
 | _ => Ue c0 c1 c2
theorem f16 {H : Hp} {w : Wd} {u s l p n t k a c h e x d : Value} (q : T7 H w u s l p n t k a c h e x d) (z : Vk w) : Aw EE 16 [.agg #[u, s, l, p, .int .i64 w.cf.skew, .int .i64 w.now, .int .i64 w.fresh, n, t, k, a, c, h, e, x, d]] H (.int .i64 (bz w)) := by
 refine Ag rfl rfl k16 (by simp [uQ]) rfl fun m hw => ?_
 have hroom := q.acs.room
 have a38 := Ax (yQ q z)
 have V := q.vcs
 simp only [go_sem, Nat.reduceEqDiff, reduceCtorEq, uQ, a38, hw, V]
 cases q0 : A6 w <;> simp only [go_sem, Nat.reduceEqDiff, reduceCtorEq, q0, V, q.acs.len]
 ·rw [O7 (fun h => by rw [q0] at h; exact absurd h.1 (by simp))]
 cases q1 : decide ((w.acs.length : Int) = 0) <;> simp only [go_sem, Nat.reduceEqDiff, reduceCtorEq, q1, q.acs.len]
 rotate_left
 ·rw [O7 (fun h => by have := As q1; omega)]
 have h0 : 0 < w.acs.length := by have := Au q1; omega
 rw [Up q0 h0]
 refine Ak w.acs.length (fun i s' => s'.H = H ∧ (∃ g, s'.ρ 3 = .bx g [.int .i64 (sc 0 (w.acs.take i)), .int .i64 (sc 1 (w.acs.take i)), .int .i64 (sc 2 (w.acs.take i))]) ∧ s'.ρ 19 = .val x ∧ s'.ρ 20 = .val (.int .i64 w.acs.length) ∧ s'.ρ 21 = .val (.int .i64 i))
  (fun s' => s'.H = H ∧ ∃ g, s'.ρ 3 = .bx g [.int .i64 (sc 0 w.acs), .int .i64 (sc 1 w.acs), .int .i64 (sc 2 w.acs)]) ?_ ?_ ?_
 ·exact ⟨rfl, ⟨_, by simp [Ah, Cb, sc]; rfl⟩, by simp [Ah], by simp [Ah], by simp [Ah]⟩
 ·rintro i s' hi ⟨hH, ⟨g, k3⟩, T6, T4, fD⟩
  simp only [go_sem, Nat.reduceEqDiff, reduceCtorEq, k3, T6, T4, fD]
  cases c1 : decide ((i : Int) < (w.acs.length : Int)) <;> simp only [go_sem, Nat.reduceEqDiff, reduceCtorEq, k3, T6, T4, fD, c1]
  ·rw [List.take_of_length_le (by have := Au c1; omega)]
   exact ⟨hH, ⟨_, rfl⟩⟩
  have hil : i < w.acs.length := by have := As c1; omega
  have w1 := Ab ((i : Int) + 1) (by omega) (by omega)
  obtain ⟨id, b, o, ho, ⟨pp, pv, hr, hs1, hs2⟩, hb, hia⟩ := q.acs.elem (B7 hil)
  have hin := fH q0 hil
  have b0 := Vy (q := 0) (l := w.acs.take i); have b1 := Vy (q := 1) (l := w.acs.take i); have b2 := Vy (q := 2) (l := w.acs.take i)
  rw [List.length_take] at b0 b1 b2
  have x0 := Ab (sc 0 (w.acs.take i) + 1) (by omega) (by omega)
  have x1 := Ab (sc 1 (w.acs.take i) + 1) (by omega) (by omega)
  have x2 := Ab (sc 2 (w.acs.take i) + 1) (by omega) (by omega)
  have hv : w.acs[i].sv = 0 ∨ w.acs[i].sv = 1 ∨ w.acs[i].sv = 2 := by omega
  simp only [go_sem, Nat.reduceEqDiff, reduceCtorEq, k3, T6, T4, fD, hia, hH, ho, hr, hb]
  rcases hv with hv | hv | hv
  ·have hb0 := Jj (len := 3) (t := 3) (g := g) (cs := [.int .i64 (sc 0 (w.acs.take i)), .int .i64 (sc 1 (w.acs.take i)), .int .i64 (sc 2 (w.acs.take i))]) 0 (by decide)
   have hv' : w.acs[i].sv = ((0 : Nat) : Int) := hv
   simp only [go_sem, Nat.reduceEqDiff, reduceCtorEq, Nat.reduceLeDiff, hv', k3, T6, T4, fD, hb0, x0, w1]
   rw [Rg (q := 0) hil hv, N9 (q := 1) hil (by omega), N9 (q := 2) hil (by omega)]
   exact ⟨hil, ⟨_, rfl⟩, by simp⟩
  ·have hb0 := Jj (len := 3) (t := 3) (g := g) (cs := [.int .i64 (sc 0 (w.acs.take i)), .int .i64 (sc 1 (w.acs.take i)), .int .i64 (sc 2 (w.acs.take i))]) 1 (by decide)
   have hv' : w.acs[i].sv = ((1 : Nat) : Int) := hv
   simp only [go_sem, Nat.reduceEqDiff, reduceCtorEq, Nat.reduceLeDiff, hv', k3, T6, T4, fD, hb0, x1, w1]
   rw [N9 (q := 0) hil (by omega), Rg (q := 1) hil hv, N9 (q := 2) hil (by omega)]
   exact ⟨hil, ⟨_, rfl⟩, by simp⟩
  ·have hb0 := Jj (len := 3) (t := 3) (g := g) (cs := [.int .i64 (sc 0 (w.acs.take i)), .int .i64 (sc 1 (w.acs.take i)), .int .i64 (sc 2 (w.acs.take i))]) 2 (by decide)
   have hv' : w.acs[i].sv = ((2 : Nat) : Int) := hv
   simp only [go_sem, Nat.reduceEqDiff, reduceCtorEq, hv', k3, T6, T4, fD, hb0, x2, w1]
   rw [N9 (q := 0) hil (by omega), N9 (q := 1) hil (by omega), Rg (q := 2) hil hv]
   exact ⟨hil, ⟨_, rfl⟩, by simp⟩
 rintro s' ⟨hH, ⟨g, k3⟩⟩
 generalize sc 0 w.acs = c0 at *
 generalize sc 1 w.acs = c1 at *
 generalize sc 2 w.acs = c2 at *
 simp only [go_sem, Nat.reduceEqDiff, reduceCtorEq, k3, hH]
 have h0 := Jj (len := 3) (t := 3) (g := g) (cs := [.int .i64 c0, .int .i64 c1, .int .i64 c2]) 0 (by decide)
 have h1 := Jj (len := 3) (t := 3) (g := g) (cs := [.int .i64 c0, .int .i64 c1, .int .i64 c2]) 1 (by decide)
 have i0 := Rr (n := 3) (cs := #[.int .i64 c0, .int .i64 c1, .int .i64 c2]) (v := .int .i64 c0) 0 (by decide) rfl
 have i1 := Rr (n := 3) (cs := #[.int .i64 c0, .int .i64 c1, .int .i64 c2]) (v := .int .i64 c1) 1 (by decide) rfl
 have i2 := Rr (n := 3) (cs := #[.int .i64 c0, .int .i64 c1, .int .i64 c2]) (v := .int .i64 c2) 2 (by decide) rfl
 have z0 : ((0 : Nat) : Int) = 0 := rfl
 have z1 : ((1 : Nat) : Int) = 1 := rfl
 have z2 : ((2 : Nat) : Int) = 2 := rfl
 rw [z0] at h0 i0
 rw [z1] at h1 i1
 rw [z2] at i2
 have l0 : decide ((0 : Int) < 3) = true := rfl
 have l1 : decide ((1 : Int) < 3) = true := rfl
 have l2 : decide ((2 : Int) < 3) = true := rfl
 have l3 : decide ((3 : Int) < 3) = false := rfl
 have p0 : IntKind.i64.wrap (0 + 1) = 1 := rfl
 have p1 : IntKind.i64.wrap (1 + 1) = 2 := rfl
 have p2 : IntKind.i64.wrap (2 + 1) = 3 := rfl
 refine Ak 3 (fun i s' => s'.H = H ∧ s'.ρ 3 = .bx g [.int .i64 c0, .int .i64 c1, .int .i64 c2] ∧ s'.ρ 32 = .val (.agg #[.int .i64 c0, .int .i64 c1, .int .i64 c2]) ∧ s'.ρ 33 = .val (.int .i64 i) ∧ s'.ρ 6 = .val (.int .i64 (pI c0 c1 c2 i)))
  (fun s' => s'.H = H ∧ s'.ρ 6 = .val (.int .i64 (Ue c0 c1 c2))) ?_ ?_ ?_
 ·exact ⟨rfl, by simp [Ah, k3], by simp [Ah], by simp [Ah], by simp [Ah, pI]⟩
 ·rintro i s' hi ⟨hH, k3, bH, R3, k6⟩
  have hi4 : i = 0 ∨ i = 1 ∨ i = 2 ∨ i = 3 := by omega
  rcases hi4 with rfl | rfl | rfl | rfl
  ·have R3 : s'.ρ 33 = .val (.int .i64 0) := R3
   have k6 : s'.ρ 6 = .val (.int .i64 0) := k6
   simp only [go_sem, Nat.reduceEqDiff, reduceCtorEq, k3, bH, R3, k6, hH, l0, i0, h0]
   have : decide (c0 > c0) = false := decide_eq_false (by omega)
   simp only [go_sem, Nat.reduceEqDiff, reduceCtorEq, k3, bH, R3, k6, hH, this, p0]
   exact ⟨by omega, rfl, rfl⟩
  ·have R3 : s'.ρ 33 = .val (.int .i64 1) := R3
   have k6 : s'.ρ 6 = .val (.int .i64 0) := k6
   simp only [go_sem, Nat.reduceEqDiff, reduceCtorEq, k3, bH, R3, k6, hH, l1, i1, h0]
   cases q5 : decide (c1 > c0) <;> simp only [go_sem, Nat.reduceEqDiff, reduceCtorEq, k3, bH, R3, k6, hH, q5, p1]
   ·have : pI c0 c1 c2 (1 + 1) = 0 := by show Xp c0 c1 = 0; unfold Xp; rw [if_neg (Au q5)]
    rw [this]
    exact ⟨by omega, rfl, rfl⟩
   ·have : pI c0 c1 c2 (1 + 1) = 1 := by show Xp c0 c1 = 1; unfold Xp; rw [if_pos (As q5)]
    rw [this]
    exact ⟨by omega, rfl, rfl⟩
  ·have R3 : s'.ρ 33 = .val (.int .i64 2) := R3
   have k6 : s'.ρ 6 = .val (.int .i64 (Xp c0 c1)) := k6
   have e3 : pI c0 c1 c2 (2 + 1) = Ue c0 c1 c2 := rfl
   cases q5 : decide (c1 > c0)
   ·have eb : Xp c0 c1 = 0 := by unfold Xp; rw [if_neg (Au q5)]
    rw [eb] at k6
    simp only [go_sem, Nat.reduceEqDiff, reduceCtorEq, k3, bH, R3, k6, hH, l2, i2, h0]
    cases q6 : decide (c2 > c0) <;> simp only [go_sem, Nat.reduceEqDiff, reduceCtorEq, k3, bH, R3, k6, hH, q6, p2]
    ·rw [e3, show Ue c0 c1 c2 = 0 by unfold Ue; rw [if_neg (Au q5), if_neg (Au q6), eb]]
     exact ⟨by omega, rfl, rfl⟩
    ·rw [e3, show Ue c0 c1 c2 = 2 by unfold Ue; rw [if_neg (Au q5), if_pos (As q6)]]
     exact ⟨by omega, rfl, rfl⟩
   ·have eb : Xp c0 c1 = 1 := by unfold Xp; rw [if_pos (As q5)]
    rw [eb] at k6
    simp only [go_sem, Nat.reduceEqDiff, reduceCtorEq, k3, bH, R3, k6, hH, l2, i2, h1]
    cases q6 : decide (c2 > c1) <;> simp only [go_sem, Nat.reduceEqDiff, reduceCtorEq, k3, bH, R3, k6, hH, q6, p2]
    ·rw [e3, show Ue c0 c1 c2 = 1 by unfold Ue; rw [if_pos (As q5), if_neg (Au q6), eb]]
     exact ⟨by omega, rfl, rfl⟩
    ·rw [e3, show Ue c0 c1 c2 = 2 by unfold Ue; rw [if_pos (As q5), if_pos (As q6)]]
     exact ⟨by omega, rfl, rfl⟩
  ·have R3 : s'.ρ 33 = .val (.int .i64 3) := R3
   have k6 : s'.ρ 6 = .val (.int .i64 (Ue c0 c1 c2)) := k6
   simp only [go_sem, Nat.reduceEqDiff, k3, bH, R3, k6, hH, l3]
 ·rintro s' ⟨hH, k6⟩
  simp only [go_sem, Nat.reduceEqDiff, hH, k6]
theorem Hx {s p : ByteArray} (h : p ∈ (A5 s).getD []) : p.size ≤ s.size ∧ ((A5 s).getD []).length ≤ 12 := by
 cases hb : Fc s 108 with
 | false => rw [Fk hb] at h; cases h
 | true => exact ⟨(Mp hb h).2.size, by rw [Fl hb]; simp [N4]; exact Ob hb⟩
theorem Jr (s : ByteArray) : ((A5 s).getD []).length ≤ 12 := by
 cases hb : Fc s 108 with
 | false => rw [Fk hb]; simp
 | true => rw [Fl hb]; simp [N4]; exact Ob hb
def NuR (H : Hp) (r : Value) (H' : Hp) : Prop := ∃ v l b, r = .tuple #[v, .bool b] ∧ Vb eI 1 H v H' l
theorem lP (o : Option Int) : qZ o = .tuple #[.int .i64 (o.getD 0), .bool o.isSome] := by cases o <;> rfl
theorem Ph {m : Md} {H : Hp} {s : ByteArray} (hs : s.size ≤ 4611686018427387904) (hw : Wr m H) : Ci EE m 205 [.string s] H fun r H' => NuR H r H' := by
 refine Bt rfl rfl sF (by simp [nB]) ?_
 have p0 : H <+: H ++ [[]] := Eg
 have s0 : Bu (H ++ [[]]) (.slice (some ⟨H.length, 0, some 1⟩) 0 (0 * 1)) [] := Eb
 have o0 : Ao H.length (.slice (some ⟨H.length, 0, some 1⟩) 0 (0 * 1)) := .inr ⟨_, _, _, _, rfl, Nat.le_refl _⟩
 generalize hwv : Value.slice (some ⟨H.length, 0, some 1⟩) 0 (0 * 1) = wv0 at s0 o0
 simp only [go_sem, Nat.reduceEqDiff, nB, Ba, hwv]
 refine Aa (fun m' h => Rl hs h) rfl (hw.pre p0) fun r1 H1 ⟨pv, e1, p1, sp, op⟩ => ?_
 subst e1
 have op : Ao (H ++ [[]]).length pv := op
 have sv := s0.pre p1
 have hdis : ∀ j ∈ Ae pv, j ∉ Ae wv0 := fun j hj hm => by have := s0.ids j hm; have := Bc op j hj; omega
 have l12 := Jr s
 have hin := fun {p : ByteArray} (h : p ∈ (A5 s).getD []) => (Hx h).1
 generalize (A5 s).getD [] = ps at *
 generalize (A5 s).isSome = b0
 simp only [go_sem, Nat.reduceEqDiff, List.getElem?_toArray, Bd, hwv]
 refine Ak 13 (fun i t => H <+: t.H ∧ t.ρ 5 = .val pv ∧ t.ρ 7 = .val (.int .i64 i) ∧ Dz t.H pv ps ∧ i ≤ ps.length ∧ ∃ b wv l, t.ρ 6 = .val (.bool b) ∧ t.ρ 4 = .val wv ∧ Bu t.H wv l ∧ l.length = i ∧ Ao H.length wv ∧ ∀ j ∈ Ae pv, j ∉ Ae wv)
  (fun t => H <+: t.H ∧ ∃ b wv l, t.ρ 6 = .val (.bool b) ∧ t.ρ 4 = .val wv ∧ Bu t.H wv l ∧ Ao H.length wv) ?_ ?_ ?_
 ·exact ⟨p0.trans p1, by simp [Ah], by simp [Ah], sp, Nat.zero_le _, b0, wv0, [], by simp [Ah], by simp [Ah], sv, rfl, o0, hdis⟩
 ·rintro i t hi ⟨kH, k5, k7, kp, hle, b, wv, l, k6, k4, ks, kl, ko, kd⟩
  simp only [go_sem, Nat.reduceEqDiff, k4, k5, k6, k7, kp.len]
  cases q : decide ((i : Int) < (ps.length : Int)) <;> simp only [go_sem, Nat.reduceEqDiff, k4, k5, k6, k7, q]
  ·exact ⟨kH, b, wv, l, rfl, rfl, ks, ko⟩
  have hil : i < ps.length := by have := As q; omega
  have w1 := Ab ((i : Int) + 1) (by omega) (by omega)
  obtain ⟨x, hx⟩ : ∃ x, ps[i]? = some x := ⟨_, B7 hil⟩
  have hxs := hin (List.mem_of_getElem? hx)
  obtain ⟨id, p, o, ho, hr, hia⟩ := kp.str hx
  have a216 := Ax (zI (H := t.H) (s := x) (by omega))
  obtain ⟨v2, H2, d1, d2, d3, d4, d5, d6, d7⟩ := ks.oneI2 (m := m) ((Xo x).getD 0) ko kH.length_le hw (by omega)
  have fin : H <+: H2 ∧ Dz H2 pv ps ∧ (i + 1 ≤ ps.length) ∧ Bu H2 v2 (l ++ [(Xo x).getD 0]) ∧ (l ++ [(Xo x).getD 0]).length = i + 1 ∧ Ao H.length v2 ∧ ∀ j ∈ Ae pv, j ∉ Ae v2 := ⟨d7 H (Nat.le_refl _) kH, kp.aside kd d4, hil, d2, by simp [kl], d3, fun j hj hm => by
   rcases d6 j hm with h | h
   ·exact kd j hj h
   ·have := kp.ids j hj; omega⟩
  simp only [go_sem, Nat.reduceEqDiff, reduceCtorEq, k4, k5, k6, k7, hia, ho, hr, a216, hw.pre kH, lP, List.getElem?_toArray, Bd]
  cases b <;> simp only [go_sem, Nat.reduceEqDiff, reduceCtorEq, k4, k5, k6, k7]
  ·rw [d1]
   rotate_left
   ·rfl
   ·rfl
   ·rfl
   simp only [go_sem, Nat.reduceEqDiff, k4, k5, k6, k7, w1]
   obtain ⟨g1, g2, g3, g4, g5, g6, g7⟩ := fin
   exact ⟨by omega, g1, by simp, g2, g3, false, v2, _, rfl, rfl, g4, g5, g6, g7⟩
  ·rw [d1]
   rotate_left
   ·rfl
   ·rfl
   ·rfl
   simp only [go_sem, Nat.reduceEqDiff, k4, k5, k6, k7, w1]
   obtain ⟨g1, g2, g3, g4, g5, g6, g7⟩ := fin
   exact ⟨by omega, g1, by simp, g2, g3, _, v2, _, rfl, rfl, g4, g5, g6, g7⟩
 ·rintro t ⟨kH, b, wv, l, k6, k4, ks, ko⟩
  simp only [go_sem, Nat.reduceEqDiff, k4, k6]
  cases b <;> simp only [go_sem, Nat.reduceEqDiff, k4, k6]
  ·have p2 : t.H <+: t.H ++ [[]] := Eg
   have s2 : Bu (t.H ++ [[]]) (.slice (some ⟨t.H.length, 0, some 1⟩) 0 0) [] := Eb
   have o2 : Ao H.length (.slice (some ⟨t.H.length, 0, some 1⟩) 0 0) := .inr ⟨_, _, _, _, rfl, kH.length_le⟩
   exact ⟨_, [], false, rfl, kH.trans p2, s2, o2⟩
  ·exact ⟨wv, l, true, rfl, kH, ks, ko⟩
abbrev Ry (x : Re) : Value := .agg #[.int .i64 x.1, .int .i64 x.2.1, .int .i64 x.2.2]
def RsP (r : Value) : Prop := ∃ (x : Re) (b : Bool), r = .tuple #[Ry x, .bool b] ∧ (b = true → E4 x = true)
theorem Sl.int0 {H : Hp} {v : Value} {l : List Int} (h : Bu H v l) {k : Nat} {n : Int} (hn : n = k) (hk : k < l.length) : ∃ (x : Int) (id p : Nat) (o : List Value), H[id]? = some o ∧ o[p]? = some (.int .i64 x) ∧
  ∀ (s : St) (x : X), Av s.ρ x = some v → B4 s 1 x (.c (.int .i64 n)) = some (.val (.pointer (some ⟨id, p, some o.length⟩)), s) := by
 subst hn
 obtain ⟨i0, q0, o0, h0, r0, a0⟩ := h.int (B7 hk)
 exact ⟨_, _, _, _, h0, r0, fun s x hx => a0 s x _ hx rfl⟩
theorem Sl.str0 {H : Hp} {v : Value} {l : List ByteArray} (h : Dz H v l) {k : Nat} {n : Int} (hn : n = k) (hk : k < l.length) : ∃ (x : ByteArray) (id p : Nat) (o : List Value), x ∈ l ∧ H[id]? = some o ∧ o[p]? = some (.string x) ∧
  ∀ (s : St) (x : X), Av s.ρ x = some v → B4 s 1 x (.c (.int .i64 n)) = some (.val (.pointer (some ⟨id, p, some o.length⟩)), s) := by
 subst hn
 obtain ⟨i0, q0, o0, h0, r0, a0⟩ := h.str (B7 hk)
 exact ⟨_, _, _, _, List.getElem_mem hk, h0, r0, fun s x hx => a0 s x _ hx rfl⟩
theorem jM {H : Hp} {s : ByteArray} (hs : s.size ≤ 4611686018427387904) : A4 EE 220 [.string s] H RsP := by
 refine Ar rfl rfl uV (by simp [iI]) fun m hw => ?_
 simp only [go_sem, Nat.reduceEqDiff, iI]
 refine Aa (fun m' h => Ph hs h) rfl hw fun r1 H1 ⟨v, l, b, e1, p1, sv, ov⟩ => ?_
 subst e1
 have no : A8 (.tuple #[Ry (0, 0, 0), .bool false]) = true ∧ RsP (.tuple #[Ry (0, 0, 0), .bool false]) ∧ H1.take H.length = H := ⟨rfl, ⟨_, _, rfl, fun h => by cases h⟩, (List.prefix_iff_eq_take.1 p1).symm⟩
 have hw1 := hw.pre p1
 simp only [go_sem, Nat.reduceEqDiff, List.getElem?_toArray, Bd, sv.vc]
 cases b <;> simp only [go_sem, Nat.reduceEqDiff, sv.len]
 ·exact no
 cases q : decide ((l.length : Int) = 3) <;> simp only [go_sem, Nat.reduceEqDiff, reduceCtorEq, q]
 ·exact no
 have q : l.length = 3 := by have := As q; omega
 obtain ⟨x0, i0, q0, o0, h0, r0, a0⟩ := sv.int0 (n := 0) (k := 0) rfl (by omega)
 obtain ⟨x1, i1, q1, o1, h1, r1, a1⟩ := sv.int0 (n := 1) (k := 1) rfl (by omega)
 obtain ⟨x2, i2, q2, o2, h2, r2, a2⟩ := sv.int0 (n := 2) (k := 2) rfl (by omega)
 have a101 := Ax (Rj (H := H1) (x := (x0, x1, x2)))
 refine Af ?_
 simp only [go_sem, Nat.reduceEqDiff, reduceCtorEq, Nat.reduceLeDiff, a0, a1, a2, h0, h1, h2, r0, r1, r2]
 refine ⟨by rfl, ?_⟩
 simp only [go_sem, Nat.reduceEqDiff, a101, hw1]
 cases q : E4 (x0, x1, x2) <;> simp only [go_sem, Nat.reduceEqDiff, q]
 ·exact no
 ·exact ⟨rfl, ⟨(x0, x1, x2), true, rfl, fun _ => q⟩, no.2.2⟩
theorem qF {H : Hp} {s : ByteArray} {k : Int} (hs : s.size ≤ 4611686018427387904) : A4 EE 211 [.string s, .int .i64 k] H fun r => ∃ (x : Re) (b : Bool), r = .tuple #[Ry x, .bool b] := by
 refine Ar rfl rfl tG (by simp [gJ]) fun m hw => ?_
 have hz : ((Ck s k).getD ⟨#[]⟩).size ≤ s.size := by
  cases ho : Ck s k with
  | none => exact Nat.zero_le _
  | some x => exact (G6 ho).2.2 ▸ (Li (G6 ho).1).2.size
 have a215 := Ax (Yu (H := H) (k := k) hs)
 simp only [go_sem, Nat.reduceEqDiff, gJ, a215, hw, Oq, List.getElem?_toArray, Bd]
 refine Aa (fun m' h => Ph (s := (Ck s k).getD ⟨#[]⟩) (by omega) h) rfl hw fun r1 H1 ⟨v, l, b, e1, p1, sv, ov⟩ => ?_
 subst e1
 have no : A8 (.tuple #[Ry (0, 0, 0), .bool false]) = true ∧ (∃ (x : Re) (b : Bool), (Value.tuple #[Ry (0, 0, 0), .bool false]) = .tuple #[Ry x, .bool b]) ∧ H1.take H.length = H := ⟨rfl, ⟨_, _, rfl⟩, (List.prefix_iff_eq_take.1 p1).symm⟩
 have hw1 := hw.pre p1
 simp only [go_sem, Nat.reduceEqDiff, List.getElem?_toArray, Bd, sv.vc]
 cases b <;> simp only [go_sem, Nat.reduceEqDiff, reduceCtorEq, sv.len]
 ·exact no
 cases q : decide ((l.length : Int) = 4) <;> simp only [go_sem, Nat.reduceEqDiff, reduceCtorEq, q]
 ·exact no
 have q : l.length = 4 := by have := As q; omega
 obtain ⟨x0, i0, q0, o0, h0, r0, a0⟩ := sv.int0 (n := 0) (k := 0) rfl (by omega)
 obtain ⟨x1, i1, q1, o1, h1, r1, a1⟩ := sv.int0 (n := 1) (k := 1) rfl (by omega)
 obtain ⟨x2, i2, q2, o2, h2, r2, a2⟩ := sv.int0 (n := 2) (k := 2) rfl (by omega)
 obtain ⟨x3, i3, q3, o3, h3, r3, a3⟩ := sv.int0 (n := 3) (k := 3) rfl (by omega)
 have a102 := Ax (cD (H := H1) (x := (x1, x2, x3)))
 simp only [go_sem, Nat.reduceEqDiff, reduceCtorEq, a0, h0, r0]
 cases q7 : decide (x0 = 7) <;> simp only [go_sem, Nat.reduceEqDiff, reduceCtorEq, q7]
 ·exact no
 refine Af ?_
 simp only [go_sem, Nat.reduceEqDiff, reduceCtorEq, Nat.reduceLeDiff, a1, a2, a3, h1, h2, h3, r1, r2, r3]
 refine ⟨by rfl, ?_⟩
 simp only [go_sem, Nat.reduceEqDiff, a102, hw1]
 cases q : Hk (x1, x2, x3) <;> simp only [go_sem, Nat.reduceEqDiff, q]
 ·exact no
 ·exact ⟨rfl, ⟨(x1, x2, x3), true, rfl⟩, no.2.2⟩
theorem qH {H : Hp} {a b : Int} (hb : 0 ≤ b) (hb2 : b < 64) : A4 EE 225 [.int .i64 a, .int .i64 b] H fun r => ∃ x : Bool, r = .bool x := by
 refine Ar rfl rfl tS (by simp [mQ]) fun m hw => ?_
 have hu : IntKind.u64.wrap b = b := by unfold IntKind.wrap; simp [IntKind.bits, IntKind.signed]; omega
 have h0 : ¬ b < 0 := by omega
 simp only [go_sem, Nat.reduceEqDiff, mQ, hu, if_neg h0]
 exact ⟨_, rfl⟩
theorem tB {H : Hp} {x : Re} {a b c : Int} : A4 EE 212 [Ry x, .int .i64 a, .int .i64 b, .int .i64 c] H fun r => ∃ x : Bool, r = .bool x := by
 refine Ar rfl rfl Abh (by simp [jZ]) fun m hw => ?_
 have a101 := Ax (Rj (H := H) (x := x))
 simp only [go_sem, Nat.reduceEqDiff, reduceCtorEq, jZ, a101, hw]
 cases q1 : E4 x <;> simp only [go_sem, Nat.reduceEqDiff, reduceCtorEq, Cu, hw]
 ·exact ⟨_, rfl⟩
 cases q2 : A0 a 0 2 <;> simp only [go_sem, Nat.reduceEqDiff, reduceCtorEq, Cu, hw]
 ·exact ⟨_, rfl⟩
 cases q3 : A0 b 0 7 <;> simp only [go_sem, Nat.reduceEqDiff, reduceCtorEq, Cu, hw]
 ·exact ⟨_, rfl⟩
 have q2 := Bz.1 q2
 have q3 := Bz.1 q3
 refine Aa (fun m' h => qH (a := x.1) (b := a) (by omega) (by omega) m' h) rfl hw fun r1 H1 ⟨⟨b1, e1⟩, e2⟩ => ?_
 subst e1; subst e2
 simp only [go_sem, Nat.reduceEqDiff, reduceCtorEq]
 cases b1 <;> simp only [go_sem, Nat.reduceEqDiff, reduceCtorEq]
 ·exact ⟨_, rfl⟩
 refine Aa (fun m' h => qH (a := x.2.1) (b := b) (by omega) (by omega) m' h) rfl hw fun r1 H1 ⟨⟨b1, e1⟩, e2⟩ => ?_
 subst e1; subst e2
 simp only [go_sem, Nat.reduceEqDiff, reduceCtorEq]
 cases b1 <;> simp only [go_sem, Nat.reduceEqDiff, reduceCtorEq, Cu, hw]
 ·exact ⟨_, rfl⟩
 ·exact ⟨_, rfl⟩
theorem pH {H : Hp} {x y : Re} : A4 EE 222 [Ry x, Ry y] H fun r => ∃ z : Re, r = Ry z := by
 refine Ar rfl rfl xJ (by simp [mV]) fun m hw => ?_
 have a1 := Ax (Rj (H := H) (x := x))
 have a2 := Ax (Rj (H := H) (x := y))
 simp only [go_sem, Nat.reduceEqDiff, mV, a1, hw]
 cases q1 : E4 x <;> simp only [go_sem, Nat.reduceEqDiff, a2, hw]
 ·exact ⟨rfl, (0, 0, 0), rfl⟩
 cases q2 : E4 y <;> simp only [go_sem, Nat.reduceEqDiff, reduceCtorEq, Nat.reduceLeDiff]
 ·exact ⟨rfl, (0, 0, 0), rfl⟩
 refine Bf.intro (fun q => ?_) (fun q => ?_) <;> simp only [go_sem, Nat.reduceEqDiff, reduceCtorEq, Nat.reduceLeDiff]
 ·exact ⟨rfl, (_, _, _), rfl⟩
 ·exact ⟨rfl, (_, _, _), rfl⟩
theorem Qy {s : ByteArray} {k : Int} : ((Ck s k).getD ⟨#[]⟩).size ≤ s.size := by
 cases ho : Ck s k with
 | none => exact Nat.zero_le _
 | some x => exact (G6 ho).2.2 ▸ (Li (G6 ho).1).2.size
abbrev rN (g : Gr) : Value := .agg #[.int .i64 g.1, .int .i64 g.2.1, .int .i64 g.2.2.1, .int .i64 g.2.2.2.1, .int .i64 g.2.2.2.2.1, .int .i64 g.2.2.2.2.2]
theorem tI {H : Hp} {s : ByteArray} {k : Int} (hs : s.size ≤ 4611686018427387904) : A4 EE 208 [.string s, .int .i64 k] H fun r => ∃ (x : Gr) (b : Bool), r = .tuple #[rN x, .bool b] ∧ (b = true → Kv x = true) := by
 refine Ar rfl rfl uZ (by simp [jE]) fun m hw => ?_
 have hz := Qy (s := s) (k := k)
 have a215 := Ax (Yu (H := H) (k := k) hs)
 simp only [go_sem, Nat.reduceEqDiff, reduceCtorEq, jE, a215, hw, Oq, List.getElem?_toArray, Bd]
 refine Aa (fun m' h => Rl (s := (Ck s k).getD ⟨#[]⟩) (by omega) h) rfl hw fun r1 H1 ⟨pv, e1, p1, sp, op⟩ => ?_
 subst e1
 have no : ∀ {H2 : Hp}, H <+: H2 → A8 (.tuple #[rN (0, 0, 0, 0, 0, 0), .bool false]) = true ∧ (∃ (x : Gr) (b : Bool), (Value.tuple #[rN (0, 0, 0, 0, 0, 0), .bool false]) = .tuple #[rN x, .bool b] ∧ (b = true → Kv x = true)) ∧ H2.take H.length = H := fun h => ⟨rfl, ⟨_, _, rfl, fun h => by cases h⟩, (List.prefix_iff_eq_take.1 h).symm⟩
 have hw1 := hw.pre p1
 have hin := fun {p : ByteArray} (h : p ∈ (A5 ((Ck s k).getD ⟨#[]⟩)).getD []) => (Hx h).1
 generalize (A5 ((Ck s k).getD ⟨#[]⟩)).getD [] = ps at *
 generalize (A5 ((Ck s k).getD ⟨#[]⟩)).isSome = b0
 simp only [go_sem, Nat.reduceEqDiff, reduceCtorEq, List.getElem?_toArray, Bd, sp.len, sp.vc]
 cases q : decide ((ps.length : Int) = 3) <;> simp only [go_sem, Nat.reduceEqDiff, reduceCtorEq, q]
 ·exact no p1
 have q : ps.length = 3 := by have := As q; omega
 obtain ⟨x0, i0, q0, o0, m0, h0, r0, a0⟩ := sp.str0 (n := 0) (k := 0) rfl (by omega)
 have b0 := hin m0
 have a214 := Ax (Zg (H := H1) (s := x0) (by omega))
 generalize hk : (if Fc x0 107 = true then Js x0 else 0) = kk at a214
 simp only [go_sem, Nat.reduceEqDiff, reduceCtorEq, a0, h0, r0, a214, hw1, List.getElem?_toArray, Bd]
 obtain ⟨x1, i1, q1, o1, m1, h1, r1, a1⟩ := sp.str0 (n := 1) (k := 1) rfl (by omega)
 have b1 := hin m1
 simp only [go_sem, Nat.reduceEqDiff, reduceCtorEq, a1, h1, r1]
 refine Aa (fun m' h => Ph (s := x1) (by omega) h) rfl hw1 fun r2 H2 ⟨v, l, b, e2, p2, sv, ov⟩ => ?_
 subst e2
 have hw2 := hw1.pre p2
 obtain ⟨x2, i2, q2, o2, m2, h2, r2, a2⟩ := (sp.pre p2).str0 (n := 2) (k := 2) rfl (by omega)
 have b2 := hin m2
 have no2 := no (p1.trans p2)
 simp only [go_sem, Nat.reduceEqDiff, reduceCtorEq, a2, h2, r2, List.getElem?_toArray, Bd, sv.vc]
 refine Aa (fun m' h => jM (s := x2) (by omega) m' h) rfl hw2 fun r3 H3 ⟨⟨xr, br, e3, hbr⟩, e4⟩ => ?_
 subst e3; subst e4
 simp only [go_sem, Nat.reduceEqDiff, reduceCtorEq, List.getElem?_toArray, Bd]
 cases hb0 : Fc x0 107 <;> simp only [go_sem, Nat.reduceEqDiff, reduceCtorEq, sv.len]
 ·exact no2
 cases b <;> simp only [go_sem, Nat.reduceEqDiff, reduceCtorEq, sv.len]
 ·exact no2
 cases br <;> simp only [go_sem, Nat.reduceEqDiff, reduceCtorEq, sv.len]
 ·exact no2
 cases q : decide ((l.length : Int) = 2) <;> simp only [go_sem, Nat.reduceEqDiff, reduceCtorEq, q]
 ·exact no2
 have q : l.length = 2 := by have := As q; omega
 obtain ⟨y0, i3, q3, o3, h3, r3, a3⟩ := sv.int0 (n := 0) (k := 0) rfl (by omega)
 obtain ⟨y1, i4, q4, o4, h4, r4, a4⟩ := sv.int0 (n := 1) (k := 1) rfl (by omega)
 have a224 := Ax (oV (H := H3) (g := (kk, y0, y1, xr)))
 refine Af ?_
 simp only [go_sem, Nat.reduceEqDiff, reduceCtorEq, Nat.reduceLeDiff, a3, a4, h3, h4, r3, r4]
 refine ⟨by rfl, ?_⟩
 simp only [go_sem, Nat.reduceEqDiff, reduceCtorEq, a224, hw2]
 cases q : Kv (kk, y0, y1, xr) <;> simp only [go_sem, Nat.reduceEqDiff, reduceCtorEq, q]
 ·exact no2
 ·exact ⟨rfl, ⟨(kk, y0, y1, xr), true, rfl, fun _ => q⟩, no2.2.2⟩
abbrev gM (t : Wl) (p v : Value) : Value := .agg #[.int .i64 t.cl, .int .i64 t.sv, .int .i64 t.ky, .int .i64 t.rs.1, .int .i64 t.rs.2.1, .int .i64 t.rs.2.2, p, v]
def TkR (H : Hp) (r : Value) (H' : Hp) : Prop := ∃ (t : Wl) (p v : Value) (b : Bool), r = .tuple #[gM t p v, .bool b] ∧ H <+: H' ∧ Bu H' p t.pa ∧ Bu H' v t.vi ∧ Ao H.length p ∧ Ao H.length v ∧ (b = true → Hr t = true)
theorem Zc {m : Md} {H : Hp} {s : ByteArray} {k : Int} (hs : s.size ≤ 4611686018427387904) (hw : Wr m H) : Ci EE m 210 [.string s, .int .i64 k] H fun r H' => TkR H r H' := by
 refine Bt rfl rfl sI (by simp [gC]) ?_
 have hz := Qy (s := s) (k := k)
 have a215 := Ax (Yu (H := H) (k := k) hs)
 simp only [go_sem, ↓reduceIte, Nat.reduceEqDiff, reduceCtorEq, gC, a215, hw, Oq, List.getElem?_toArray, Bd]
 refine Aa (fun m' h => Rl (s := (Ck s k).getD ⟨#[]⟩) (by omega) h) rfl hw fun r1 H1 ⟨pv, e1, p1, sp, op⟩ => ?_
 subst e1
 have no : ∀ {H2 : Hp}, H <+: H2 → TkR H (.tuple #[gM ⟨0, 0, 0, (0, 0, 0), [], []⟩ (.slice none 0 0) (.slice none 0 0), .bool false]) H2 := fun h => ⟨⟨0, 0, 0, (0, 0, 0), [], []⟩, _, _, _, rfl, h, .inl ⟨rfl, rfl⟩, .inl ⟨rfl, rfl⟩, .inl rfl, .inl rfl, fun h => by cases h⟩
 have hw1 := hw.pre p1
 have hin := fun {p : ByteArray} (h : p ∈ (A5 ((Ck s k).getD ⟨#[]⟩)).getD []) => (Hx h).1
 generalize (A5 ((Ck s k).getD ⟨#[]⟩)).getD [] = ps at *
 generalize (A5 ((Ck s k).getD ⟨#[]⟩)).isSome = b0
 simp only [go_sem, ↓reduceIte, Nat.reduceEqDiff, reduceCtorEq, List.getElem?_toArray, Bd, sp.len, sp.vc]
 cases q : decide ((ps.length : Int) = 5) <;> simp only [go_sem, ↓reduceIte, Nat.reduceEqDiff, reduceCtorEq, q]
 ·exact no p1
 have q : ps.length = 5 := by have := As q; omega
 obtain ⟨x0, i0, q0, o0, m0, h0, r0, a0⟩ := sp.str0 (n := 0) (k := 0) rfl (by omega)
 have b0 := hin m0
 simp only [go_sem, ↓reduceIte, Nat.reduceEqDiff, reduceCtorEq, a0, h0, r0]
 refine Aa (fun m' h => Ph (s := x0) (by omega) h) rfl hw1 fun r2 H2 ⟨v1, l1, c1, e2, p2, s1, ov1⟩ => ?_
 subst e2
 have hw2 := hw1.pre p2
 obtain ⟨x1, i1, q1, o1, m1, h1, r1, a1⟩ := (sp.pre p2).str0 (n := 1) (k := 1) rfl (by omega)
 have b1 := hin m1
 have a214 := Ax (Zg (H := H2) (s := x1) (by omega))
 generalize hk : (if Fc x1 107 = true then Js x1 else 0) = kk at a214
 generalize hc2 : Fc x1 107 = c2 at a214
 simp only [go_sem, ↓reduceIte, Nat.reduceEqDiff, reduceCtorEq, a1, h1, r1, a214, hw2, List.getElem?_toArray, Bd, s1.vc]
 obtain ⟨x2, i2, q2, o2, m2, h2, r2, a2⟩ := (sp.pre p2).str0 (n := 2) (k := 2) rfl (by omega)
 have b2 := hin m2
 simp only [go_sem, ↓reduceIte, Nat.reduceEqDiff, reduceCtorEq, a2, h2, r2]
 refine Aa (fun m' h => jM (s := x2) (by omega) m' h) rfl hw2 fun r3 H3 ⟨⟨xr, c3, e3, hbr⟩, e4⟩ => ?_
 subst e3; subst e4
 obtain ⟨x3, i3, q3, o3, m3, h3, r3, a3⟩ := (sp.pre p2).str0 (n := 3) (k := 3) rfl (by omega)
 have b3 := hin m3
 simp only [go_sem, ↓reduceIte, Nat.reduceEqDiff, reduceCtorEq, a3, h3, r3, List.getElem?_toArray, Bd]
 refine Aa (fun m' h => Ph (s := x3) (by omega) h) rfl hw2 fun r4 H4 ⟨v4, l4, c4, e4, p4, s4, ov4⟩ => ?_
 subst e4
 have hw4 := hw2.pre p4
 obtain ⟨x4, i4, q4, o4, m4, h4, r4, a4⟩ := ((sp.pre p2).pre p4).str0 (n := 4) (k := 4) rfl (by omega)
 have b4 := hin m4
 simp only [go_sem, ↓reduceIte, Nat.reduceEqDiff, reduceCtorEq, a4, h4, r4, List.getElem?_toArray, Bd, s4.vc]
 refine Aa (fun m' h => Ph (s := x4) (by omega) h) rfl hw4 fun r5 H5 ⟨v5, l5, c5, e5, p5, s5, ov5⟩ => ?_
 subst e5
 have hw5 := hw4.pre p5
 have s1 := (s1.pre p4).pre p5
 have no5 := no (((p1.trans p2).trans p4).trans p5)
 simp only [go_sem, ↓reduceIte, Nat.reduceEqDiff, reduceCtorEq, List.getElem?_toArray, Bd, s5.vc]
 cases c1 <;> simp only [go_sem, ↓reduceIte, Nat.reduceEqDiff, reduceCtorEq]
 ·exact no5
 cases c2 <;> simp only [go_sem, ↓reduceIte, Nat.reduceEqDiff, reduceCtorEq]
 ·exact no5
 cases c3 <;> simp only [go_sem, ↓reduceIte, Nat.reduceEqDiff, reduceCtorEq]
 ·exact no5
 cases c4 <;> simp only [go_sem, ↓reduceIte, Nat.reduceEqDiff, reduceCtorEq]
 ·exact no5
 cases c5 <;> simp only [go_sem, ↓reduceIte, Nat.reduceEqDiff, reduceCtorEq, s1.len]
 ·exact no5
 cases q : decide ((l1.length : Int) = 2) <;> simp only [go_sem, ↓reduceIte, Nat.reduceEqDiff, reduceCtorEq, q]
 ·exact no5
 have q : l1.length = 2 := by have := As q; omega
 obtain ⟨y0, i6, q6, o6, h6, r6, a6⟩ := s1.int0 (n := 0) (k := 0) rfl (by omega)
 obtain ⟨y1, i7, q7, o7, h7, r7, a7⟩ := s1.int0 (n := 1) (k := 1) rfl (by omega)
 have s4' : Bu H5 v4 (Wl.pa ⟨y0, y1, kk, xr, l4, l5⟩) := s4.pre p5
 have s5' : Bu H5 v5 (Wl.vi ⟨y0, y1, kk, xr, l4, l5⟩) := s5
 have a157 := Ax (pQ s4' s5')
 have V4 := s4.vc
 have V5 := s5.vc
 refine Af ?_
 simp only [go_sem, ↓reduceIte, Nat.reduceEqDiff, reduceCtorEq, Nat.reduceLeDiff, a6, a7, h6, h7, r6, r7, V4, V5]
 refine ⟨by rfl, ?_⟩
 simp only [go_sem, ↓reduceIte, Nat.reduceEqDiff, reduceCtorEq, a157, hw5, V4, V5]
 cases q : Hr ⟨y0, y1, kk, xr, l4, l5⟩ <;> simp only [go_sem, ↓reduceIte, Nat.reduceEqDiff, reduceCtorEq, q, V4, V5]
 ·exact no5
 ·have n1 : H.length ≤ H1.length := p1.length_le
  have n2 : H1.length ≤ H3.length := p2.length_le
  have n4 : H3.length ≤ H4.length := p4.length_le
  exact ⟨_, _, _, true, rfl, ((p1.trans p2).trans p4).trans p5, s4', s5', Ao.mono (show Ao H3.length v4 from ov4) (by omega), Ao.mono (show Ao H4.length v5 from ov5) (by omega), fun _ => q⟩
theorem qT (a : Int) : A0 a 0 2 = (decide (a ≥ 0) && decide (a < 3)) := by
 unfold A0
 congr 1
 rw [decide_eq_decide]; omega
theorem Ul {H : Hp} {a : Int} : Aw EE 173 [.int .i64 a] H (.bool (A0 a 0 2)) := by
 refine Ag rfl rfl vX (by simp [mL]) rfl fun m hw => ?_
 rw [qT]
 simp only [go_sem, Nat.reduceEqDiff, reduceCtorEq, mL]
 cases q : decide (a ≥ 0) <;> simp only [go_sem, Nat.reduceEqDiff, reduceCtorEq, q]
def I1 (r : Value) : Prop := ∃ n : Int, r = .int .i64 n
theorem Ra {H : Hp} {a : Int} : A4 EE 177 [.int .i64 a] H I1 := by
 refine Ar rfl rfl sB (by simp [gY]) fun m hw => ?_
 have a61 := Ax (cW (H := H) (a := a))
 simp only [go_sem, Nat.reduceEqDiff, gY, a61, hw]
 cases q : A0 a 0 5 <;> simp only [go_sem, Nat.reduceEqDiff, q]
 ·exact ⟨_, rfl⟩
 cases q : decide (a < 3) <;> simp only [go_sem, Nat.reduceEqDiff, q]
 ·exact ⟨_, rfl⟩
 ·exact ⟨_, rfl⟩
theorem jS {H : Hp} {a : Int} : A4 EE 193 [.int .i64 a] H I1 := by
 refine Ar rfl rfl wT (by simp [iS]) fun m hw => ?_
 have a173 := Ax (Ul (H := H) (a := a))
 simp only [go_sem, Nat.reduceEqDiff, iS, a173, hw]
 cases q : A0 a 0 2 <;> simp only [go_sem, Nat.reduceEqDiff, q]
 ·exact ⟨_, rfl⟩
 ·exact ⟨_, rfl⟩
theorem jG {H : Hp} {a b : Int} : A4 EE 194 [.int .i64 a, .int .i64 b] H I1 := by
 refine Ar rfl rfl rX (by simp [gW]) fun m hw => ?_
 have a1 := Ax (Ul (H := H) (a := a))
 have a2 := Ax (Ul (H := H) (a := b))
 simp only [go_sem, Nat.reduceEqDiff, gW, a1, hw]
 cases q : A0 a 0 2 <;> simp only [go_sem, Nat.reduceEqDiff, q, a2, hw]
 ·exact ⟨_, rfl⟩
 cases q : A0 b 0 2 <;> simp only [go_sem, Nat.reduceEqDiff, reduceCtorEq, q]
 ·exact ⟨_, rfl⟩
 ·exact ⟨_, rfl⟩
theorem fU {H : Hp} {a b c : Int} : A4 EE 217 [.int .i64 a, .int .i64 b, .int .i64 c] H fun r => ∃ x : Bool, r = .bool x := by
 refine Ar rfl rfl zJ (by simp [iY]) fun m hw => ?_
 simp only [go_sem, iY]
 cases q : decide (IntKind.i64.wrap (a - b) > c) <;> simp only [go_sem, Nat.reduceEqDiff, reduceCtorEq, q]
 ·exact ⟨_, rfl⟩
 ·exact ⟨_, rfl⟩
theorem lX {H : Hp} {a : Int} : A4 EE 195 [.int .i64 a] H fun r => ∃ x : Bool, r = .bool x := by
 refine Ar rfl rfl Aas (by simp [nI]) fun m hw => ?_
 simp only [go_sem, nI]
 cases q : decide (a < 0) <;> simp only [go_sem, Nat.reduceEqDiff, reduceCtorEq, q]
 ·exact ⟨_, rfl⟩
 ·exact ⟨_, rfl⟩
theorem fQ {l : List Int} {most : Nat} {n : Int} (h : Kf l most n = true) {x : Int} (hx : x ∈ l) : 0 ≤ x ∧ x ≤ n - 1 := by
 simp only [Kf, Bool.and_eq_true, List.all_eq_true] at h
 have := Bz.1 (h.1 x hx)
 omega
structure rC (c : Ic) : Prop where
 ul : c.ur.length = 3
 sl : c.sr.length = 3
 ui : ∀ x ∈ c.ur, 0 ≤ x ∧ x ≤ 2
 si : ∀ x ∈ c.sr, 0 ≤ x ∧ x ≤ 2
 li : ∀ x ∈ c.lk, (0 ≤ x.1 ∧ x.1 ≤ 2) ∧ 0 ≤ x.2 ∧ x.2 ≤ 2
 ll : c.lk.length ≤ 6
theorem dZ {c : Ic} (h : Co c = true) : rC c := by
 simp only [Co, Bool.and_eq_true, decide_eq_true_eq] at h
 obtain ⟨h1, h2, h3, h4, h5, h6, h7⟩ := h
 have h5 := dR.1 h5
 refine ⟨h1, h3, fun x hx => by have := fQ h2 hx; omega, fun x hx => by have := fQ h4 hx; omega, fun x hx => ?_, h5.1⟩
 obtain ⟨i, hi, rfl⟩ := List.getElem_of_mem hx
 have := h5.2 i hi
 simp only [Bool.and_eq_true, Lp] at this
 have a := Bz.1 this.1.1
 have b := Bz.1 this.1.2.1
 omega
abbrev T3 (c : Ic) (u s l p : Value) : Value := .agg #[u, s, l, p, .int .i64 c.skew]
theorem Sl.intI {H : Hp} {v : Value} {l : List Int} (h : Bu H v l) {n : Int} (h0 : 0 ≤ n) (h1 : n < l.length) : ∃ (x : Int) (id p : Nat) (o : List Value), x ∈ l ∧ H[id]? = some o ∧ o[p]? = some (.int .i64 x) ∧
  ∀ (s : St) (x y : X), Av s.ρ x = some v → Av s.ρ y = some (.int .i64 n) → B4 s 1 x y = some (.val (.pointer (some ⟨id, p, some o.length⟩)), s) := by
 obtain ⟨k, rfl⟩ := Int.eq_ofNat_of_zero_le h0
 have hk : k < l.length := by omega
 obtain ⟨i0, q0, o0, h0, r0, a0⟩ := h.int (B7 hk)
 exact ⟨_, _, _, _, List.getElem_mem hk, h0, r0, a0⟩
theorem cU {H : Hp} {c : Ic} {u s l p : Value} (hc : K5 H c u s l p) {n : Int} : A4 EE 148 [T3 c u s l p, .int .i64 n] H fun r => ∃ x : Int, r = .int .i64 x ∧ -1 ≤ x ∧ x ≤ 2 ∧ (Co c = true → A0 n 0 5 = true → 0 ≤ x) := by
 refine Ar rfl rfl zS (by simp [iV]) fun m hw => ?_
 obtain ⟨v1, v2, v3, v4⟩ := hc.vcs
 have a55 := Ax (iO hc)
 have a61 := Ax (cW (H := H) (a := n))
 simp only [go_sem, Nat.reduceEqDiff, iV, a55, hw, v1, v2, v3, v4]
 cases q : Co c <;> simp only [go_sem, Nat.reduceEqDiff, reduceCtorEq, q, a61, hw]
 ·exact ⟨-1, rfl, by omega, by omega, fun h => by cases h⟩
 have cp := dZ q
 cases q2 : A0 n 0 5 <;> simp only [go_sem, Nat.reduceEqDiff, reduceCtorEq, q2]
 ·exact ⟨-1, rfl, by omega, by omega, fun _ h => by cases h⟩
 have hn := Bz.1 q2
 refine Bf.intro (fun q => ?_) (fun q => ?_) <;> simp only [go_sem, Nat.reduceEqDiff, reduceCtorEq, v1, v2, v3, v4]
 ·obtain ⟨x, id, p, o, hx, ho, hr, ha⟩ := hc.ur.intI (n := n) hn.1 (by have := As q; have := cp.ul; omega)
  simp only [go_sem, Nat.reduceEqDiff, reduceCtorEq, ha, ho, hr]
  have := cp.ui x hx
  exact ⟨x, rfl, by omega, by omega, fun _ _ => by omega⟩
 ·have q := Au q
  have w1 := Ab (n - 3) (by omega) (by omega)
  obtain ⟨x, id, p, o, hx, ho, hr, ha⟩ := hc.sr.intI (n := n - 3) (by omega) (by have := cp.sl; omega)
  simp only [go_sem, Nat.reduceEqDiff, reduceCtorEq, w1, ha, ho, hr]
  have := cp.si x hx
  exact ⟨x, rfl, by omega, by omega, fun _ _ => by omega⟩
theorem Sl.storeI {H : Hp} {v : Value} {l : List Int} (h : Bu H v l) {n : Int} (h0 : 0 ≤ n) (h1 : n < l.length) : ∃ (id p : Nat) (o : List Value), H[id]? = some o ∧ p + 1 ≤ o.length ∧ Ae v = [id] ∧
  (∀ (s : St) (x y : X), Av s.ρ x = some v → Av s.ρ y = some (.int .i64 n) → B4 s 1 x y = some (.val (.pointer (some ⟨id, p, some o.length⟩)), s)) ∧
  ∀ a : Int, ∃ l', l'.length = l.length ∧ Bu (H.set id (spl o p [.int .i64 a])) v l' := by
 obtain ⟨k, rfl⟩ := Int.eq_ofNat_of_zero_le h0
 obtain ⟨id, p, o, a1, a2, a3, a4, a5⟩ := h.store (i := k) (by omega)
 exact ⟨id, p, o, a1, a2, a3, a4, fun a => ⟨l.set k a, by simp, a5 a _ rfl rfl⟩⟩
theorem bI.pair {H : Hp} {v : Value} {l : List Pr} (h : bI H v l) {i : Nat} (hi : i < l.length) : ∃ (x : Pr) (id p : Nat) (o : List Value), x ∈ l ∧ H[id]? = some o ∧ o[p]? = some (.int .i64 x.1) ∧ o[p + 1]? = some (.int .i64 x.2) ∧
  ∀ (s : St) (x y : X), Av s.ρ x = some v → Av s.ρ y = some (.int .i64 i) → B4 s 2 x y = some (.val (.pointer (some ⟨id, p, some o.length⟩)), s) := by
 obtain ⟨id, p, o, ho, hr, hp, hia⟩ := h.elem (B7 hi)
 have hr : (o.drop p).take 2 = Ud l[i] := hr
 exact ⟨l[i], id, p, o, List.getElem_mem hi, ho, by have := Al hr (j := 0) (by omega); simpa [Ud] using this, by have := Al hr (j := 1) (by omega); simpa [Ud] using this, hia⟩
def Abf (H : Hp) (r : Value) (H' : Hp) : Prop := ∃ l : List Int, H <+: H' ∧ Bu H' r l ∧ l.length = 3
theorem Aa5 {m : Md} {H : Hp} {c : Ic} {u s l p : Value} (hc : K5 H c u s l p) (cp : rC c) {n : Int} (h0 : 0 ≤ n) (h2 : n ≤ 2) (hw : Wr m H) : Ci EE m 188 [T3 c u s l p, .int .i64 n] H fun r H' => Abf H r H' := by
 refine Bt rfl rfl rO (by simp [gL]) ?_
 obtain ⟨v1, v2, v3, v4⟩ := hc.vcs
 have p0 : H <+: H ++ [[]] := Eg
 have s0 : Bu (H ++ [[]]) (.slice (some ⟨H.length, 0, some 1⟩) 0 (0 * 1)) [] := Eb
 have o0 : Ao H.length (.slice (some ⟨H.length, 0, some 1⟩) 0 (0 * 1)) := .inr ⟨_, _, _, _, rfl, Nat.le_refl _⟩
 generalize hwv : Value.slice (some ⟨H.length, 0, some 1⟩) 0 (0 * 1) = wv0 at s0 o0
 simp only [go_sem, Nat.reduceEqDiff, gL, Ba, hwv, v1, v2, v3, v4]
 refine Ak 3 (fun i t => H <+: t.H ∧ (∃ g, t.ρ 2 = .bx g [u, s, l, p, .int .i64 c.skew]) ∧ t.ρ 1 = .val (.int .i64 n) ∧ t.ρ 6 = .val (.int .i64 i) ∧ i ≤ 3 ∧ ∃ wv k, t.ρ 5 = .val wv ∧ Bu t.H wv k ∧ k.length = i ∧ Ao H.length wv)
  (fun t => H <+: t.H ∧ (∃ g, t.ρ 2 = .bx g [u, s, l, p, .int .i64 c.skew]) ∧ t.ρ 1 = .val (.int .i64 n) ∧ ∃ wv k, t.ρ 5 = .val wv ∧ Bu t.H wv k ∧ k.length = 3 ∧ Ao H.length wv) ?_ ?_ ?_
 ·exact ⟨p0, ⟨1, by simp [Ah]⟩, by simp [Ah, Cb], by simp [Ah], by omega, wv0, [], by simp [Ah], s0, rfl, o0⟩
 ·rintro i t hi ⟨kH, ⟨g, k2⟩, k1, k6, hi3, wv, k, k5, ks, kl, ko⟩
  simp only [go_sem, Nat.reduceEqDiff, k1, k2, k5, k6]
  cases q : decide ((i : Int) < 3) <;> simp only [go_sem, Nat.reduceEqDiff, k1, k2, k5, k6, q]
  ·have : i = 3 := by have := Au q; omega
   exact ⟨kH, ⟨_, rfl⟩, wv, k, rfl, ks, by omega, ko⟩
  have hil : i < 3 := by have := As q; omega
  have w1 := Ab ((i : Int) + 1) (by omega) (by omega)
  obtain ⟨u2, H2, d1, d2, d3, d4, d5, d6, d7⟩ := ks.oneI2 (m := m) 3 ko kH.length_le hw (by omega)
  rw [d1]
  rotate_left
  ·rfl
  ·rfl
  ·rfl
  simp only [go_sem, Nat.reduceEqDiff, reduceCtorEq, k1, k2, k5, k6, w1]
  exact ⟨hil, d7 H (Nat.le_refl _) kH, ⟨_, rfl⟩, by simp, by omega, u2, _, rfl, d2, by simp [kl], d3⟩
 rintro t ⟨kH, ⟨g, k2⟩, k1, wv, k, k5, ks, kl, ko⟩
 have wid : ∀ {id : Nat}, Ae wv = [id] → H.length ≤ id ∧ m.wr id = true := fun {id} h => by
  have := Bc ko id (by rw [h]; simp)
  exact ⟨this, hw _ this⟩
 obtain ⟨id, q, o, ho, hp, hid, hia, hst⟩ := ks.storeI h0 (by omega)
 obtain ⟨j1, j2⟩ := wid hid
 obtain ⟨k', kl', ks'⟩ := hst 0
 simp only [go_sem, Nat.reduceEqDiff, reduceCtorEq, k1, k2, k5, hia, ho, hp, j2]
 refine Ak 3 (fun i t => H <+: t.H ∧ (∃ g, t.ρ 2 = .bx g [u, s, l, p, .int .i64 c.skew]) ∧ t.ρ 7 = .val (.int .i64 i) ∧ t.ρ 5 = .val wv ∧ ∃ k, Bu t.H wv k ∧ k.length = 3)
  (fun t => H <+: t.H ∧ t.ρ 5 = .val wv ∧ ∃ k, Bu t.H wv k ∧ k.length = 3) ?_ ?_ ?_
 ·exact ⟨K9 kH j1, ⟨g, by simp [Ah, k2]⟩, by simp [Ah], by simp [Ah, k5], k', ks', by omega⟩
 ·clear kH k1 k2 k5 ks ho hp hid hia hst ks'
  rintro i t hi ⟨kH, ⟨g, k2⟩, k7, k5, k, ks, kl⟩
  simp only [go_sem, Nat.reduceEqDiff, reduceCtorEq, k2, k5, k7]
  cases q : decide ((i : Int) < 3) <;> simp only [go_sem, Nat.reduceEqDiff, reduceCtorEq, k2, k5, k7, q]
  ·exact ⟨kH, k, ks, kl⟩
  have hil : i < 3 := by have := As q; omega
  have w1 := Ab ((i : Int) + 1) (by omega) (by omega)
  refine Ak c.lk.length (fun j t => H <+: t.H ∧ (∃ g, t.ρ 2 = .bx g [u, s, l, p, .int .i64 c.skew]) ∧ t.ρ 7 = .val (.int .i64 i) ∧ t.ρ 8 = .val (.int .i64 j) ∧ t.ρ 5 = .val wv ∧ ∃ k, Bu t.H wv k ∧ k.length = 3)
   (fun t => H <+: t.H ∧ (∃ g, t.ρ 2 = .bx g [u, s, l, p, .int .i64 c.skew]) ∧ t.ρ 7 = .val (.int .i64 i) ∧ t.ρ 5 = .val wv ∧ ∃ k, Bu t.H wv k ∧ k.length = 3) ?_ ?_ ?_
  ·exact ⟨kH, ⟨g, by simp [Ah, k2]⟩, by simp [Ah, k7], by simp [Ah], by simp [Ah, k5], k, ks, kl⟩
  ·clear kH k2 k5 k7 ks
   rintro j t hj ⟨kH, ⟨g, k2⟩, k7, k8, k5, k, ks, kl⟩
   have hlk := hc.lk.pre kH
   simp only [go_sem, Nat.reduceEqDiff, reduceCtorEq, k2, k5, k7, k8, hlk.len]
   cases q : decide ((j : Int) < (c.lk.length : Int)) <;> simp only [go_sem, Nat.reduceEqDiff, reduceCtorEq, k2, k5, k7, k8, q]
   ·exact ⟨kH, ⟨_, rfl⟩, k, ks, kl⟩
   have hjl : j < c.lk.length := by have := As q; omega
   have w2 := Ab ((j : Int) + 1) (by have := cp.ll; omega) (by have := cp.ll; omega)
   obtain ⟨x, id, pp, o, hx, ho, r1, r2, hia⟩ := bI.pair hlk hjl
   obtain ⟨⟨b1, b2⟩, b3, b4⟩ := cp.li x hx
   obtain ⟨y1, i1, q1, o1, m1, ho1, hr1, ha1⟩ := ks.intI (n := x.1) b1 (by omega)
   obtain ⟨y2, i2, q2, o2, m2, ho2, hr2, ha2⟩ := ks.intI (n := x.2) b3 (by omega)
   obtain ⟨i3, q3, o3, ho3, hp3, hid3, ha3, hst⟩ := ks.storeI (n := x.1) b1 (by omega)
   obtain ⟨j1, j2⟩ := wid hid3
   obtain ⟨k', kl', ks'⟩ := hst (IntKind.i64.wrap (y2 + 1))
   refine Af ?_
   simp only [go_sem, Nat.reduceEqDiff, reduceCtorEq, k2, k5, k7, k8, hia, ho, r1, r2, ha1, ho1, hr1, ha2, ho2, hr2]
   refine ⟨by rfl, ?_⟩
   refine Bf.intro (fun q => ?_) (fun q => ?_)
   ·refine Af ?_
    simp only [go_sem, Nat.reduceEqDiff, reduceCtorEq, k2, k5, k7, k8, hia, ho, r1, r2, ha2, ho2, hr2, ha3, ho3, hp3, j2]
    refine ⟨by rfl, ?_⟩
    simp only [go_sem, Nat.reduceEqDiff, k2, k5, k7, k8, w2]
    exact ⟨hjl, K9 kH j1, ⟨_, rfl⟩, by simp, k', ks', by omega⟩
   ·simp only [go_sem, Nat.reduceEqDiff, k2, k5, k7, k8, w2]
    exact ⟨hjl, kH, ⟨_, rfl⟩, by simp, k, ks, kl⟩
  ·clear kH k2 k5 k7 ks
   rintro t ⟨kH, ⟨g, k2⟩, k7, k5, k, ks, kl⟩
   simp only [go_sem, Nat.reduceEqDiff, k2, k5, k7, w1]
   exact ⟨hil, kH, ⟨_, rfl⟩, by simp, k, ks, kl⟩
 ·clear kH k1 k2 k5 ks ho hp hid hia hst ks'
  rintro t ⟨kH, k5, k, ks, kl⟩
  simp only [go_sem, k5]
  exact ⟨k, kH, ks, kl⟩
theorem qS {H : Hp} {c : Ic} {u s l p : Value} (hc : K5 H c u s l p) {a b : Int} : A4 EE 167 [T3 c u s l p, .int .i64 a, .int .i64 b] H fun r => ∃ x : Int, r = .int .i64 x ∧ -1 ≤ x ∧ x ≤ 2 := by
 refine Ar rfl rfl wZ (by simp [mJ]) fun m hw => ?_
 obtain ⟨v1, v2, v3, v4⟩ := hc.vcs
 have a55 := Ax (iO hc)
 have a1 := Ax (Ul (H := H) (a := a))
 have a2 := Ax (Ul (H := H) (a := b))
 simp only [go_sem, Nat.reduceEqDiff, mJ, a55, hw, v1, v2, v3, v4]
 cases q : Co c <;> simp only [go_sem, Nat.reduceEqDiff, q, a1, hw]
 ·exact ⟨-1, rfl, by omega, by omega⟩
 have cp := dZ q
 cases q1 : A0 a 0 2 <;> simp only [go_sem, Nat.reduceEqDiff, reduceCtorEq, q1, a2, hw]
 ·exact ⟨-1, rfl, by omega, by omega⟩
 cases q2 : A0 b 0 2 <;> simp only [go_sem, Nat.reduceEqDiff, q2]
 ·exact ⟨-1, rfl, by omega, by omega⟩
 cases q3 : decide (a = b) <;> simp only [go_sem, Nat.reduceEqDiff, reduceCtorEq, q3, v1, v2, v3, v4]
 rotate_left
 ·exact ⟨-1, rfl, by omega, by omega⟩
 have hb := Bz.1 q2
 refine Aa (fun m' h => Aa5 hc cp hb.1 hb.2 h) rfl hw fun r1 H1 ⟨k, p1, ks, kl⟩ => ?_
 have p1 : H <+: H1 := p1
 have V1 := ks.vc
 simp only [go_sem, Nat.reduceEqDiff, V1]
 refine Ak 3 (fun i t => t.H = H1 ∧ (∃ g, t.ρ 3 = .bx g [u, s, l, p, .int .i64 c.skew]) ∧ t.ρ 1 = .val (.int .i64 a) ∧ t.ρ 7 = .val r1 ∧ t.ρ 9 = .val (.int .i64 i) ∧ ∃ x : Int, t.ρ 8 = .val (.int .i64 x) ∧ -1 ≤ x ∧ x ≤ 2)
  (fun t => t.H = H1 ∧ ∃ x : Int, t.ρ 8 = .val (.int .i64 x) ∧ -1 ≤ x ∧ x ≤ 2) ?_ ?_ ?_
 ·exact ⟨rfl, ⟨1, by simp [Ah]⟩, by simp [Ah, Cb], by simp [Ah], by simp [Ah], -1, by simp [Ah], by omega, by omega⟩
 ·rintro i t hi ⟨kH, ⟨g, k3⟩, k1, k7, k9, x, k8, x1, x2⟩
  have hlk := hc.lk.pre p1
  have hw1 := hw.pre p1
  have a139 := Ax (bP hlk (x := (a, (i : Int))))
  simp only [go_sem, Nat.reduceEqDiff, reduceCtorEq, k1, k3, k7, k8, k9]
  cases q : decide ((i : Int) < 3) <;> simp only [go_sem, Nat.reduceEqDiff, reduceCtorEq, k1, k3, k7, k8, k9, q]
  ·exact ⟨kH, x, rfl, x1, x2⟩
  have hil : i < 3 := by have := As q; omega
  have w1 := Ab ((i : Int) + 1) (by omega) (by omega)
  obtain ⟨y1, i1, q1, o1, m1, ho1, hr1, ha1⟩ := ks.intI (n := (i : Int)) (by omega) (by omega)
  refine Af ?_
  simp only [go_sem, Nat.reduceEqDiff, reduceCtorEq, Nat.reduceLeDiff, k1, k3, k7, k8, k9, a139, hw1, kH]
  cases b1 : c.lk.any (Kb · (a, (i : Int))) <;> simp only [go_sem, Nat.reduceEqDiff, reduceCtorEq, Nat.reduceLeDiff, k1, k3, k7, k8, k9, ha1, ho1, hr1]
  ·refine ⟨by rfl, ?_⟩
   simp only [go_sem, Nat.reduceEqDiff, reduceCtorEq, k1, k3, k7, k8, k9, w1]
   exact ⟨hil, ⟨_, rfl⟩, by simp, x, rfl, x1, x2⟩
  cases b2 : decide (y1 < 3) <;> simp only [go_sem, Nat.reduceEqDiff, reduceCtorEq, k1, k3, k7, k8, k9, b2]
  ·refine ⟨by rfl, ?_⟩
   simp only [go_sem, Nat.reduceEqDiff, reduceCtorEq, k1, k3, k7, k8, k9, w1]
   exact ⟨hil, ⟨_, rfl⟩, by simp, x, rfl, x1, x2⟩
  cases b3 : decide (x < 0) <;> simp only [go_sem, Nat.reduceEqDiff, reduceCtorEq, k1, k3, k7, k8, k9, b3, ha1, ho1, hr1]
  ·have b3 := Au b3
   obtain ⟨y2, i2, q2, o2, m2, ho2, hr2, ha2⟩ := ks.intI (n := x) (by omega) (by omega)
   simp only [go_sem, Nat.reduceEqDiff, reduceCtorEq, k1, k3, k7, k8, k9, ha2, ho2, hr2]
   refine ⟨by rfl, ?_⟩
   refine Bf.intro (fun q => ?_) (fun q => ?_) <;> simp only [go_sem, Nat.reduceEqDiff, k1, k3, k7, k8, k9, w1]
   ·exact ⟨hil, ⟨_, rfl⟩, by simp, i, rfl, by omega, by omega⟩
   ·exact ⟨hil, ⟨_, rfl⟩, by simp, x, rfl, x1, x2⟩
  ·refine ⟨by rfl, ?_⟩
   simp only [go_sem, k1, k3, k7, k8, k9, w1]
   exact ⟨hil, ⟨_, rfl⟩, by simp, i, rfl, by omega, by omega⟩
 ·rintro t ⟨kH, x, k8, x1, x2⟩
  simp only [go_sem, k8]
  refine ⟨⟨x, rfl, x1, x2⟩, ?_⟩
  rw [kH]
  exact (List.prefix_iff_eq_take.1 p1).symm
end Go.Proofs.YtglboiahgpfjdaaGreat.Ev
