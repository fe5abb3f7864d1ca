/- Texts of the proof, laid one behind the other. -/
import Derived.Test.YtglboiahgpfjdaaGreatB2
import Derived.Test.YtglboiahgpfjdaaGreatProg
namespace Go.Proofs.YtglboiahgpfjdaaGreat.Ev
set_option linter.all false
set_option maxRecDepth 4000
open Go
section
def Bo (l : List Nat) : ByteArray := ⟨(l.map UInt8.ofNat).toArray⟩
theorem Cf (l : List Nat) : (Bo l).size = l.length := by simp [Bo, ByteArray.size]
theorem Qk {l : List Nat} {i : Nat} : (Bo l)[i]? = (l[i]?).map UInt8.ofNat := by
 show (Bo l).data[i]? = _
 simp [Bo]
def Cv (n : Nat) : List Nat := if n < 128 then [n] else (n % 128 + 128) :: Cv (n / 128)
termination_by n
theorem Hh {n : Nat} (h : n < 128) : Cv n = [n] := by rw [Cv, if_pos h]
theorem Ib {n : Nat} (h : ¬ n < 128) : Cv n = (n % 128 + 128) :: Cv (n / 128) := by rw [Cv, if_neg h]
def Bx (n : Int) : ByteArray := if 0 ≤ n ∧ n ≤ 562949953421311 then Bo (Cv n.toNat) else ByteArray.empty
theorem G7 : ∀ n : Nat, 0 < (Cv n).length := fun n => by
 rw [Cv]; split <;> simp
theorem Ht : ∀ (k n : Nat), n < 128 ^ (k + 1) → (Cv n).length ≤ k + 1
 | 0, n, h => by rw [Hh (by simpa using h)]; simp
 | k + 1, n, h => by
  by_cases h1 : n < 128
  ·rw [Hh h1]; simp
  ·rw [Ib h1]
   have := Ht k (n / 128) (by rw [Nat.div_lt_iff_lt_mul (by decide)]; rw [Nat.pow_succ] at h; exact h)
   simp; omega
theorem Fp : ∀ (n : Nat) (i b : Nat), (Cv n)[i]? = some b → b < 256 ∧ (i + 1 < (Cv n).length → 128 ≤ b) ∧ (i + 1 = (Cv n).length → b < 128) := fun n => by
 induction n using Nat.strongRecOn with
 | _ n ih =>
  intro i b hb
  by_cases h : n < 128
  ·rw [Hh h] at hb ⊢
   cases i with
   | zero => simp at hb; subst hb; exact ⟨by omega, by simp, fun _ => h⟩
   | succ i => simp at hb
  ·rw [Ib h] at hb ⊢
   cases i with
   | zero =>
    simp at hb
    subst hb
    refine ⟨by omega, fun _ => by omega, fun h2 => ?_⟩
    have := G7 (n / 128)
    simp only [List.length_cons] at h2
    omega
   | succ i =>
    rw [List.getElem?_cons_succ] at hb
    have := ih (n / 128) (by omega) i b hb
    refine ⟨this.1, fun h2 => this.2.1 (by simp at h2; omega), fun h2 => this.2.2 (by simp at h2; omega)⟩
def Dh (s : ByteArray) : Nat → Nat
 | 0 => 0
 | k + 1 => Dh s k + (match s[k]? with | some b => b.toNat % 128 | none => 0) * 128 ^ k
theorem Nt (s : ByteArray) : ∀ k, Dh s k < 128 ^ k
 | 0 => by simp [Dh]
 | k + 1 => by
  have := Nt s k
  rw [Dh, Nat.pow_succ]
  generalize hd : (match s[k]? with | some b => b.toNat % 128 | none => 0) = d
  have h2 : d ≤ 127 := by
   subst hd
   split
   ·exact Nat.le_of_lt_succ (Nat.mod_lt _ (by decide))
   ·exact Nat.zero_le _
  have h3 := Nat.mul_le_mul_right (128 ^ k) h2
  generalize d * 128 ^ k = q at h3
  omega
def X7 (s : ByteArray) (k : Nat) : Prop := Bx (Dh s k) = s.extract 0 k
theorem Sx {s : ByteArray} {k i : Nat} (hk : k ≤ s.size) (hi : i < k) : (s.extract 0 k)[i]? = s[i]? := by
 show (s.extract 0 k).data[i]? = s.data[i]?
 rw [ByteArray.data_extract, Array.getElem?_extract]
 have : s.data.size = s.size := rfl
 simp
 omega
theorem Hu {s : ByteArray} {k : Nat} (h0 : 0 < k) (hk : k ≤ s.size) (h : X7 s k) : (∀ i b, i + 1 < k → s[i]? = some b → 128 ≤ b.toNat) ∧ (∀ b, s[k - 1]? = some b → b.toNat < 128) := by
 unfold X7 Bx at h
 have hsz : (s.extract 0 k).size = k := by rw [ByteArray.size_extract]; omega
 split at h
 ·have hlen : (Cv (Int.toNat (Dh s k : Int))).length = k := by rw [← Cf, h, hsz]
  have get : ∀ i b, i < k → s[i]? = some b → ∃ c, (Cv (Int.toNat (Dh s k : Int)))[i]? = some c ∧ b.toNat = c := fun i b hi hb => by
   rw [← Sx hk hi, ← h, Qk] at hb
   cases hc : (Cv (Int.toNat (Dh s k : Int)))[i]? with
   | none => rw [hc] at hb; cases hb
   | some c =>
    rw [hc] at hb
    simp at hb
    subst hb
    have := (Fp _ i c hc).1
    exact ⟨c, rfl, by simp; omega⟩
  refine ⟨fun i b hi hb => ?_, fun b hb => ?_⟩
  ·obtain ⟨c, hc, e⟩ := get i b (by omega) hb
   rw [e]
   exact (Fp _ i c hc).2.1 (by omega)
  ·obtain ⟨c, hc, e⟩ := get (k - 1) b (by omega) hb
   rw [e]
   exact (Fp _ (k - 1) c hc).2.2 (by omega)
 ·exfalso
  have : (s.extract 0 k).size = 0 := by rw [← h]; rfl
  omega
def Di (s : ByteArray) (n k : Nat) : Prop := 1 ≤ k ∧ k ≤ 7 ∧ k ≤ s.size ∧ n = Dh s k ∧ X7 s k
theorem Di.unique {s : ByteArray} {n k n' k' : Nat} (h : Di s n k) (h' : Di s n' k') : n = n' ∧ k = k' := by
 obtain ⟨a1, a2, a3, a4, a5⟩ := h
 obtain ⟨b1, b2, b3, b4, b5⟩ := h'
 have hk : k = k' := by
  rcases Nat.lt_trichotomy k k' with e | e | e
  ·have h1 := (Hu a1 a3 a5).2
   have h2 := (Hu b1 b3 b5).1 (k - 1)
   obtain ⟨b, hb⟩ : ∃ b, s[k - 1]? = some b := ⟨_, getElem?_pos s (k - 1) (by show k - 1 < s.size; omega)⟩
   have := h1 b hb
   have := h2 b (by omega) hb
   omega
  ·exact e
  ·have h1 := (Hu b1 b3 b5).2
   have h2 := (Hu a1 a3 a5).1 (k' - 1)
   obtain ⟨b, hb⟩ : ∃ b, s[k' - 1]? = some b := ⟨_, getElem?_pos s (k' - 1) (by show k' - 1 < s.size; omega)⟩
   have := h1 b hb
   have := h2 b (by omega) hb
   omega
 subst hk
 exact ⟨a4.trans b4.symm, rfl⟩
open Classical in
noncomputable def Bm (s : ByteArray) : Nat × Nat := if h : ∃ p : Nat × Nat, Di s p.1 p.2 then Classical.choose h else (0, 0)
theorem Oy {s : ByteArray} {n k : Nat} (h : Di s n k) : Bm s = (n, k) := by
 unfold Bm
 rw [dif_pos ⟨(n, k), h⟩]
 have := Classical.choose_spec (⟨(n, k), h⟩ : ∃ p : Nat × Nat, Di s p.1 p.2)
 have := this.unique h
 exact Prod.ext this.1 this.2
theorem L9 {s : ByteArray} (h : ∀ n k, ¬ Di s n k) : Bm s = (0, 0) := by
 unfold Bm
 rw [dif_neg (fun ⟨p, hp⟩ => h _ _ hp)]
end
section
def Je (f : Nat → Option Nat) : Nat → Nat → Option Nat
 | 0, e => some e
 | i + 1, e => match f e with
  | some e' => Je f i e'
  | none => none
theorem G9 (f : Nat → Option Nat) : ∀ (i e : Nat), Je f (i + 1) e = match Je f i e with | some e' => f e' | none => none
 | 0, e => by simp only [Je]; cases f e <;> rfl
 | i + 1, e => by
  rw [Je]
  cases h : f e with
  | none => simp only [Je, h]
  | some e' => simp only [Je, h]; exact G9 f i e'
def rest (s : ByteArray) (at_ : Nat) : ByteArray := s.extract at_ s.size
theorem Bh (s : ByteArray) (a : Nat) : (rest s a).size = s.size - a := by simp [rest]
noncomputable def Ca (s : ByteArray) (f : Nat → Option Nat) (a : Nat) : Option Nat :=
 match s[a]? with
 | none => none
 | some c =>
  if (Bm (rest s (a + 1))).2 = 0 then none
  else if c = 97 then (if (Bm (rest s (a + 1))).1 ≤ 40 ∧ a + 1 + (Bm (rest s (a + 1))).2 + (Bm (rest s (a + 1))).1 ≤ s.size then some (a + 1 + (Bm (rest s (a + 1))).2 + (Bm (rest s (a + 1))).1) else none)
  else if c = 107 then (if 1 ≤ (Bm (rest s (a + 1))).1 ∧ (Bm (rest s (a + 1))).1 ≤ 1000000 then some (a + 1 + (Bm (rest s (a + 1))).2) else none)
  else if c = 108 then (if (Bm (rest s (a + 1))).1 ≤ 12 then Je f (Bm (rest s (a + 1))).1 (a + 1 + (Bm (rest s (a + 1))).2) else none)
  else if c = 115 then (if 1 ≤ (Bm (rest s (a + 1))).1 ∧ (Bm (rest s (a + 1))).1 ≤ 1000000 then f (a + 1 + (Bm (rest s (a + 1))).2) else none)
  else none
noncomputable def Fa (s : ByteArray) : Nat → Nat → Option Nat
 | 0 => fun _ => none
 | d + 1 => Ca s (Fa s d)
theorem Mh (s : ByteArray) : (Bm s = (0, 0)) ∨ ∃ n k, Bm s = (n, k) ∧ Di s n k := by
 by_cases h : ∃ p : Nat × Nat, Di s p.1 p.2
 ·obtain ⟨⟨n, k⟩, h⟩ := h
  exact .inr ⟨n, k, Oy h, h⟩
 ·exact .inl (L9 fun n k h2 => h ⟨(n, k), h2⟩)
theorem Di.max {s : ByteArray} {n k : Nat} (h : Di s n k) : n ≤ 562949953421311 := by
 obtain ⟨h1, h2, h3, h4, h5⟩ := h
 have := Nt s k
 have h6 : 128 ^ k ≤ 128 ^ 7 := Nat.pow_le_pow_right (by decide) h2
 have h7 : (128 : Nat) ^ 7 = 562949953421312 := by decide
 omega
theorem Kz (s : ByteArray) : (Bm s).1 ≤ 562949953421311 ∧ (Bm s).2 ≤ 7 ∧ (Bm s).2 ≤ s.size := by
 rcases Mh s with h | ⟨n, k, h, hr⟩
 ·rw [h]; simp
 ·rw [h]
  exact ⟨hr.max, hr.2.1, hr.2.2.1⟩
theorem Kt {s : ByteArray} {f : Nat → Option Nat} (hf : ∀ a e, f a = some e → a < e ∧ e ≤ s.size) : ∀ {i a e : Nat}, a ≤ s.size → Je f i a = some e → a ≤ e ∧ e ≤ s.size
 | 0, a, e, ha, h => by cases h; exact ⟨Nat.le_refl _, ha⟩
 | i + 1, a, e, ha, h => by
  rw [Je] at h
  cases hfa : f a with
  | none => rw [hfa] at h; cases h
  | some e' =>
   rw [hfa] at h
   have h1 := hf a e' hfa
   have h2 := Kt hf h1.2 h
   exact ⟨by omega, h2.2⟩
theorem Ef {s : ByteArray} : ∀ {d a e : Nat}, Fa s d a = some e → a < e ∧ e ≤ s.size
 | 0, a, e, h => by cases h
 | d + 1, a, e, h => by
  have hf : ∀ a e, Fa s d a = some e → a < e ∧ e ≤ s.size := fun a e h => Ef h
  rw [Fa, Ca] at h
  cases hc : s[a]? with
  | none => rw [hc] at h; cases h
  | some c =>
   rw [hc] at h
   have hal : a < s.size := by
    rcases Nat.lt_or_ge a s.size with h2 | h2
    ·exact h2
    ·rw [getElem?_neg s a (by show ¬ a < s.size; omega)] at hc; cases hc
   have hr := Kz (rest s (a + 1))
   rw [Bh] at hr
   simp only at h
   split at h
   ·cases h
   ·split at h
    ·split at h
     ·cases h; omega
     ·cases h
    ·split at h
     ·split at h
      ·cases h; omega
      ·cases h
     ·split at h
      ·split at h
       ·have := Kt hf (by omega) h
        omega
       ·cases h
      ·split at h
       ·split at h
        ·have := hf _ _ h
         omega
        ·cases h
       ·cases h
def qW (s : ByteArray) : Prop := 1 ≤ s.size ∧ s.size ≤ 900 ∧ Fa s 8 0 = some s.size
open Classical in
noncomputable def Ej (s : ByteArray) : Bool := decide (qW s)
theorem Ei {s : ByteArray} : Ej s = true ↔ qW s := by
 classical
 unfold Ej; simp
theorem W3 : Ej ByteArray.empty = false := by
 cases h : Ej ByteArray.empty with
 | false => rfl
 | true =>
  have := (Ei.1 h).1
  simp at this
noncomputable def Zf (s : ByteArray) : ByteArray := if Ej s = true then s else ByteArray.empty
theorem Fx (s : ByteArray) : (Zf s).size ≤ 900 := by
 unfold Zf
 split
 ·rename_i h; exact (Ei.1 h).2.1
 ·simp
theorem D0 (n : Int) : (Bx n).size ≤ 7 := by
 unfold Bx
 split
 ·rename_i h
  rw [Cf]
  refine Ht 6 _ ?_
  have h7 : (128 : Nat) ^ (6 + 1) = 562949953421312 := by decide
  omega
 ·simp
def rL : ByteArray := ⟨#[97]⟩
def tA : ByteArray := ⟨#[108]⟩
def chS : ByteArray := ⟨#[115]⟩
noncomputable def Ov (x : ByteArray) : ByteArray := Zf (rL ++ Bx x.size ++ x)
noncomputable def Kk (k : Int) (t : ByteArray) : ByteArray := if Ej t = true ∧ 1 ≤ k ∧ k ≤ 1000000 then Zf (chS ++ Bx k ++ t) else ByteArray.empty
noncomputable def F7 (l : List ByteArray) : ByteArray := if (∀ x ∈ l, Ej x = true) ∧ l.length ≤ 12 then Zf (l.foldl (· ++ ·) (tA ++ Bx l.length)) else ByteArray.empty
noncomputable def O8 (n : Int) : ByteArray := if Bx n = ByteArray.empty then ByteArray.empty else Ov (Bx n)
end
def eN (n : Nat) : List Value := [.int .u8 (n : Int)]
abbrev My (H : Hp) (v : Value) (l : List Nat) : Prop := Sl (En eN) 1 H v l
theorem Sl.oneN {m : Md} {N : Nat} {H : Hp} {v : Value} {l : List Nat} (a : Nat) (h : My H v l) (ho : Ao N v) (hN : N ≤ H.length) (hw : ∀ id, N ≤ id → m.wr id = true) (hb : l.length < 1048576) :
  ∃ v' H', (∀ (s : St) (x y : X), s.H = H → Av s.ρ x = some v → ex s.ρ y = .vs 1 [.int .u8 (a : Int)] → Ce m s 1 1 x y = some (.val v', { s with H := H' })) ∧ My H' v' (l ++ [a]) ∧ Ao N v' ∧
   (∀ j, j < H.length → j ∉ Ae v → H'[j]? = H[j]?) ∧ H.length ≤ H'.length ∧ (∀ j ∈ Ae v', j ∈ Ae v ∨ H.length ≤ j) ∧ ∀ H0 : Hp, H0.length ≤ N → H0 <+: H → H0 <+: H' := by
 obtain ⟨v', H', h1, h2⟩ := h.app (m := m) (n := 1) (bytes := 1) (l2 := [a]) (cs := [.int .u8 (a : Int)]) ho hN hw (fun _ => rfl) (by simp) rfl (fun i b hi => by
  cases i with
  | zero => simp at hi; subst hi; rfl
  | succ i => simp at hi) (by unfold Ev.room; simp; omega) (by unfold Ev.room; simp; omega)
 exact ⟨v', H', fun s x y hH hx hy => h1 s x y hH hx (by rw [hy]; rfl), h2⟩
theorem Jn : ∀ {l : List Nat}, (∀ n ∈ l, n < 256) → Hj (l.map fun (n : Nat) => Value.int .u8 (n : Int)) = some (l.map UInt8.ofNat)
 | [], _ => rfl
 | a :: l, h => by
  have ih := Jn (l := l) fun n hn => h n (List.mem_cons_of_mem _ hn)
  have ha := h a (by simp)
  simp only [List.map_cons, Hj, ih, Vg, Int.toNat_natCast]
theorem Sl.b2s {H : Hp} {v : Value} {l : List Nat} (h : My H v l) (hl : ∀ n ∈ l, n < 256) : ∀ (s : St) (x : X), s.H = H → ex s.ρ x = .val v → Vd s x = some (.val (.string (Bo l)), s) := by
 obtain ⟨cs, h1, h2, h3⟩ := h.src
 intro s x hH hx
 have hcs : cs = l.map fun (n : Nat) => Value.int .u8 (n : Int) := by
  refine List.ext_getElem? fun j => ?_
  rw [List.getElem?_map]
  by_cases hj : j < l.length
  ·have := h3 j _ (B7 hj)
   unfold En eN at this
   have h4 := Al this (j := 0) (by omega)
   rw [Nat.mul_one, Nat.add_zero] at h4
   rw [h4, B7 hj]
   rfl
  ·rw [List.getElem?_eq_none (by omega), List.getElem?_eq_none (by omega)]
   rfl
 unfold Vd
 rw [hx, hH, h1]
 simp only
 rw [hcs, Jn hl]
 rfl
theorem Lj (n : Int) (h0 : 0 ≤ n) (h1 : n < 256) : IntKind.u8.wrap n = n := by
 simp [IntKind.wrap, IntKind.bits, IntKind.signed]
 omega
theorem Jk {H : Hp} : My (H ++ [[]]) (.slice (some ⟨H.length, 0, some 1⟩) 0 (0 * 1)) [] := .inr ⟨H.length, 0, 0, [], rfl, by simp, by simp, by simp, by simp, fun i a hi => by simp at hi⟩
theorem xZ {k : Nat} (h : k < 9223372036854775808) : IntKind.i64.wrap ((BitVec.ofInt IntKind.i64.bits (k : Int) &&& BitVec.ofInt IntKind.i64.bits 127).toNat : Int) = ((k % 128 : Nat) : Int) := by
 have h1 : (BitVec.ofInt IntKind.i64.bits (k : Int) &&& BitVec.ofInt IntKind.i64.bits 127).toNat = k % 128 := by
  show (BitVec.ofInt 64 (k : Int) &&& BitVec.ofInt 64 127).toNat = _
  rw [BitVec.toNat_and, BitVec.toNat_ofInt, BitVec.toNat_ofInt]
  have e1 : ((k : Int) % ((2 ^ 64 : Nat) : Int)).toNat = k := by
   rw [Int.emod_eq_of_lt (by omega) (by omega)]
   simp
  rw [e1]
  exact Nat.and_two_pow_sub_one_eq_mod k 7
 rw [h1, Ab _ (by omega) (by omega)]
theorem pY {k : Nat} (h : k < 128) : IntKind.i64.wrap ((BitVec.ofInt IntKind.i64.bits (k : Int) ||| BitVec.ofInt IntKind.i64.bits 128).toNat : Int) = ((k + 128 : Nat) : Int) := by
 have h1 : (BitVec.ofInt IntKind.i64.bits (k : Int) ||| BitVec.ofInt IntKind.i64.bits 128).toNat = k + 128 := by
  show (BitVec.ofInt 64 (k : Int) ||| BitVec.ofInt 64 128).toNat = _
  rw [BitVec.toNat_or, BitVec.toNat_ofInt, BitVec.toNat_ofInt]
  have e1 : ((k : Int) % ((2 ^ 64 : Nat) : Int)).toNat = k := by
   rw [Int.emod_eq_of_lt (by omega) (by omega)]
   simp
  rw [e1]
  show k ||| 128 = k + 128
  have := Nat.two_pow_add_eq_or_of_lt (i := 7) (b := k) (by omega) 1
  rw [Nat.or_comm]
  simp at this
  omega
 rw [h1, Ab _ (by omega) (by omega)]
theorem oN {b : Nat} (h : b < 256) : IntKind.u8.wrap ((BitVec.ofInt IntKind.u8.bits (b : Int) &&& BitVec.ofInt IntKind.u8.bits 127).toNat : Int) = ((b % 128 : Nat) : Int) := by
 have h1 : (BitVec.ofInt IntKind.u8.bits (b : Int) &&& BitVec.ofInt IntKind.u8.bits 127).toNat = b % 128 := by
  show (BitVec.ofInt 8 (b : Int) &&& BitVec.ofInt 8 127).toNat = _
  rw [BitVec.toNat_and, BitVec.toNat_ofInt, BitVec.toNat_ofInt]
  have e1 : ((b : Int) % ((2 ^ 8 : Nat) : Int)).toNat = b := by
   rw [Int.emod_eq_of_lt (by omega) (by omega)]
   simp
  rw [e1]
  exact Nat.and_two_pow_sub_one_eq_mod b 7
 rw [h1, Lj _ (by omega) (by omega)]
theorem xM {n b k : Nat} (hn : n < 128 ^ k) (hb : b < 128) (hk : k ≤ 6) : IntKind.i64.wrap ((BitVec.ofInt IntKind.i64.bits (n : Int) ||| BitVec.ofInt IntKind.i64.bits ((b * 128 ^ k : Nat) : Int)).toNat : Int) = ((n + b * 128 ^ k : Nat) : Int) := by
 have hp : (128 : Nat) ^ k ≤ 128 ^ 6 := Nat.pow_le_pow_right (by decide) hk
 have h6 : (128 : Nat) ^ 6 = 4398046511104 := by decide
 have hm : b * 128 ^ k ≤ 127 * 128 ^ k := Nat.mul_le_mul_right _ (by omega)
 have hm2 : n + b * 128 ^ k < 9223372036854775808 := by
  generalize b * 128 ^ k = q at *
  omega
 have h1 : (BitVec.ofInt IntKind.i64.bits (n : Int) ||| BitVec.ofInt IntKind.i64.bits ((b * 128 ^ k : Nat) : Int)).toNat = n + b * 128 ^ k := by
  show (BitVec.ofInt 64 (n : Int) ||| BitVec.ofInt 64 ((b * 128 ^ k : Nat) : Int)).toNat = _
  rw [BitVec.toNat_or, BitVec.toNat_ofInt, BitVec.toNat_ofInt]
  have e0 : ∀ x : Nat, x < 9223372036854775808 → ((x : Int) % ((2 ^ 64 : Nat) : Int)).toNat = x := fun x hx => by
   rw [Int.emod_eq_of_lt (by omega) (by omega)]
   simp
  rw [e0 n (by omega), e0 _ (by generalize b * 128 ^ k = q at *; omega)]
  have hpow : (128 : Nat) ^ k = 2 ^ (7 * k) := by rw [show (128 : Nat) = 2 ^ 7 by decide, ← Nat.pow_mul]
  rw [hpow] at hn ⊢
  have := Nat.two_pow_add_eq_or_of_lt hn b
  rw [Nat.or_comm, Nat.mul_comm b, ← this, Nat.add_comm]
 rw [h1, Ab _ (by omega) (by omega)]
def vL : List Nat → Nat
 | [] => 0
 | b :: l => b % 128 + 128 * vL l
theorem Vs : ∀ (l : List Nat) (b : Nat), vL (l ++ [b]) = vL l + b % 128 * 128 ^ l.length
 | [], b => by simp [vL]
 | a :: l, b => by
  rw [List.cons_append, vL, Vs l b, vL, List.length_cons, Nat.pow_succ, Nat.mul_add, Nat.mul_comm (128 ^ l.length) 128, ← Nat.mul_assoc, Nat.mul_comm 128 (b % 128), Nat.mul_assoc]
  omega
theorem dK : ∀ n : Nat, vL (Cv n) = n := fun n => by
 induction n using Nat.strongRecOn with
 | _ n ih =>
  by_cases h : n < 128
  ·rw [Hh h]; simp [vL]; omega
  ·rw [Ib h, vL, ih _ (by omega)]
   omega
theorem Qu {s : ByteArray} {l : List Nat} (h : ∀ (i b : Nat), l[i]? = some b → ∃ c : UInt8, s[i]? = some c ∧ c.toNat % 128 = b % 128) : ∀ k, k ≤ l.length → Dh s k = vL (l.take k)
 | 0, _ => by simp [Dh, vL]
 | k + 1, hk => by
  obtain ⟨c, hc, e⟩ := h k _ (B7 (show k < l.length by omega))
  rw [List.take_succ_eq_append_getElem (show k < l.length by omega), Vs, Dh, hc, Qu h k (by omega)]
  simp only
  rw [e, List.length_take, Nat.min_eq_left (by omega)]
theorem I3 {a b : ByteArray} {i : Nat} (h : i < a.size) : (a ++ b)[i]? = a[i]? := by
 show (a ++ b).data[i]? = a.data[i]?
 rw [ByteArray.data_append, Array.getElem?_append_left (show i < a.data.size from h)]
theorem S7 (a b : ByteArray) : (a ++ b).extract 0 a.size = a := by
 refine ByteArray.ext ?_
 rw [ByteArray.data_extract, ByteArray.data_append]
 have : a.size = a.data.size := rfl
 rw [this, Array.extract_append]
 simp
theorem R5 {n : Nat} {x : ByteArray} (h : n ≤ 562949953421311) : Bm (Bx n ++ x) = (n, (Cv n).length) := by
 have hV : Bx (n : Int) = Bo (Cv n) := by unfold Bx; rw [if_pos (by omega)]; rfl
 have h7 : (128 : Nat) ^ (6 + 1) = 562949953421312 := by decide
 have hl := Ht 6 n (by omega)
 have hp := G7 n
 have hsz : (Bo (Cv n)).size = (Cv n).length := Cf _
 have hval : Dh (Bo (Cv n) ++ x) (Cv n).length = n := by
  rw [Qu (l := Cv n) (fun i b hb => ?_) _ (Nat.le_refl _), List.take_length, dK]
  have hi := (Em hb).1
  refine ⟨UInt8.ofNat b, ?_, ?_⟩
  ·rw [I3 (by rw [hsz]; exact hi), Qk, hb]
   rfl
  ·have := (Fp n i b hb).1
   simp
 rw [hV]
 refine Oy ⟨hp, by omega, by rw [ByteArray.size_append, hsz]; omega, hval.symm, ?_⟩
 unfold X7
 rw [hval, hV]
 have := S7 (Bo (Cv n)) x
 rw [hsz] at this
 exact this.symm
section
variable {m : Md} {α : Type} {enc : α → List Value} {esz : Nat} {H : Hp} {v u : Value} {l l2 : List α}
theorem Tz {cs : List Value} (he : ∀ a, (enc a).all scal = true) (h0 : 0 < esz) (hl : cs.length = l.length * esz) (hel : ∀ (i : Nat) a, l[i]? = some a → En enc a ((cs.drop (i * esz)).take esz)) : cs.all scal = true := by
 rw [List.all_eq_true]
 intro c hc
 obtain ⟨j, hj⟩ := List.getElem?_of_mem hc
 have hjl := (Em hj).1
 have hdiv : j / esz < l.length := (Nat.div_lt_iff_lt_mul h0).2 (by omega)
 have := hel _ _ (B7 hdiv)
 unfold En at this
 have hmod := Nat.mod_lt j h0
 have h3 := Al this (j := j % esz) hmod
 have e : j / esz * esz + j % esz = j := by rw [Nat.mul_comm]; exact Nat.div_add_mod j esz
 rw [e, hj] at h3
 have := he l[j / esz]
 rw [List.all_eq_true] at this
 exact this c (List.mem_of_getElem? h3.symm)
theorem Sl.join {N bytes : Nat} (h : Sl (En enc) esz H v l) (h2 : Sl (En enc) esz H u l2) (he : ∀ a, (enc a).all scal = true) (h0 : 0 < esz) (ho : Ao N v) (hN : N ≤ H.length) (hw : ∀ id, N ≤ id → m.wr id = true)
  (hb : (l.length + l2.length) * bytes ≤ Ev.room) (hb2 : l.length + l2.length ≤ Ev.room) :
  ∃ v' H', (∀ (s : St) (x y : X), s.H = H → Av s.ρ x = some v → ex s.ρ y = .val u → Ce m s esz bytes x y = some (.val v', { s with H := H' })) ∧ Sl (En enc) esz H' v' (l ++ l2) ∧ Ao N v' ∧
   (∀ j, j < H.length → j ∉ Ae v → H'[j]? = H[j]?) ∧ H.length ≤ H'.length ∧ (∀ j ∈ Ae v', j ∈ Ae v ∨ H.length ≤ j) ∧ ∀ H0 : Hp, H0.length ≤ N → H0 <+: H → H0 <+: H' := by
 obtain ⟨cs, hsrc, hcs, hel⟩ := h2.src
 by_cases hn : l2.length = 0
 ·have : l2 = [] := List.eq_nil_of_length_eq_zero hn
  subst this
  refine ⟨v, H, fun s x y hH hx hy => ?_, by simpa using h, ho, fun _ _ _ => rfl, Nat.le_refl _, fun j hj => .inl hj, fun _ _ h => h⟩
  subst hH
  unfold Ce
  rw [hx, hy, hsrc]
  rcases h with ⟨rfl, _⟩ | ⟨_, _, _, _, rfl, _⟩ <;> rfl
 ·obtain ⟨v', H', h1, h2'⟩ := h.app (m := m) (n := 1) (bytes := bytes) (l2 := l2) (cs := cs) ho hN hw (fun _ => Tz he h0 hcs hel) (by omega) hcs hel hb hb2
  exact ⟨v', H', fun s x y hH hx hy => h1 s x y hH hx (by rw [hy]; exact hsrc), h2'⟩
theorem Y0 {o : List Value} {p n k : Nat} (h : k < n) : ((o.drop p).take n)[k]? = o[p + k]? := by rw [A3, if_pos h]
end
theorem Qb {a b : ByteArray} {i : Nat} : (a ++ b)[a.size + i]? = b[i]? := by
 show (a ++ b).data[a.size + i]? = b.data[i]?
 rw [ByteArray.data_append, Array.getElem?_append_right (show a.data.size ≤ a.size + i from Nat.le_add_right _ _)]
 have : a.size + i - a.data.size = i := by show a.data.size + i - a.data.size = i; omega
 rw [this]
theorem Jg {s y : ByteArray} : ∀ {k : Nat}, k ≤ s.size → Dh (s ++ y) k = Dh s k
 | 0, _ => rfl
 | k + 1, h => by rw [Dh, Dh, Jg (by omega), I3 (by omega)]
theorem M6 {s y : ByteArray} {a k : Nat} (h : k ≤ s.size) : (s ++ y).extract a k = s.extract a k := by
 refine ByteArray.ext ?_
 rw [ByteArray.data_extract, ByteArray.data_extract, ByteArray.data_append, Array.extract_append]
 have : s.size = s.data.size := rfl
 have h2 : k - s.data.size = 0 := by omega
 rw [h2]
 simp
theorem Di.ext {s y : ByteArray} {n k : Nat} (h : Di s n k) : Di (s ++ y) n k := by
 obtain ⟨h1, h2, h3, h4, h5⟩ := h
 refine ⟨h1, h2, by rw [ByteArray.size_append]; omega, by rw [Jg h3]; exact h4, ?_⟩
 unfold X7
 rw [Jg h3, M6 h3]
 exact h5
theorem Zj {x t y : ByteArray} {a : Nat} (h : a ≤ t.size) : rest (x ++ t ++ y) (x.size + a) = rest t a ++ y := by
 unfold rest
 refine ByteArray.ext ?_
 rw [ByteArray.data_extract, ByteArray.data_append, ByteArray.data_append, ByteArray.data_append, ByteArray.data_extract, ByteArray.size_append, ByteArray.size_append]
 have e1 : x.size = x.data.size := rfl
 have e2 : t.size = t.data.size := rfl
 have e3 : y.size = y.data.size := rfl
 rw [e1, e2, e3, Array.append_assoc, Array.extract_append, Array.extract_append]
 have z1 : x.data.extract (x.data.size + a) (x.data.size + t.data.size + y.data.size) = #[] := by
  apply Array.extract_empty_of_size_le_start
  omega
 have z2 : x.data.size + a - x.data.size = a := by omega
 have z3 : x.data.size + t.data.size + y.data.size - x.data.size = t.data.size + y.data.size := by omega
 have z4 : a - t.data.size = 0 := by omega
 have z5 : t.data.size + y.data.size - t.data.size = y.data.size := by omega
 rw [z1, z2, z3, z4, z5]
 have z6 : t.data.extract a (t.data.size + y.data.size) = t.data.extract a t.data.size := by
  rw [Array.extract_eq_extract_right]
  omega
 rw [z6]
 have z7 : y.data.extract 0 y.size = y.data := by show y.data.extract 0 y.data.size = y.data; simp
 simp [z7]
theorem Mq {f g : Nat → Option Nat} (hfg : ∀ a e, f a = some e → g a = some e) : ∀ {i a e : Nat}, Je f i a = some e → Je g i a = some e
 | 0, a, e, h => h
 | i + 1, a, e, h => by
  rw [Je] at h ⊢
  cases hfa : f a with
  | none => rw [hfa] at h; cases h
  | some e' =>
   rw [hfa] at h
   rw [hfg a e' hfa]
   exact Mq hfg h
theorem Ta {s : ByteArray} {f g : Nat → Option Nat} (hfg : ∀ a e, f a = some e → g a = some e) {a e : Nat} (h : Ca s f a = some e) : Ca s g a = some e := by
 unfold Ca at h ⊢
 cases hc : s[a]? with
 | none => rw [hc] at h; cases h
 | some c =>
  rw [hc] at h
  simp only at h ⊢
  split at h
  ·cases h
  ·rename_i h0
   rw [if_neg h0]
   split at h
   ·rename_i h1
    rw [if_pos h1]; exact h
   ·rename_i h1
    rw [if_neg h1]
    split at h
    ·rename_i h2
     rw [if_pos h2]; exact h
    ·rename_i h2
     rw [if_neg h2]
     split at h
     ·rename_i h3
      rw [if_pos h3]
      split at h
      ·rename_i h4
       rw [if_pos h4]; exact Mq hfg h
      ·cases h
     ·rename_i h3
      rw [if_neg h3]
      split at h
      ·rename_i h4
       rw [if_pos h4]
       split at h
       ·rename_i h5
        rw [if_pos h5]; exact hfg _ _ h
       ·cases h
      ·cases h
theorem Qx {s : ByteArray} : ∀ {d a e : Nat}, Fa s d a = some e → Fa s (d + 1) a = some e
 | 0, a, e, h => by cases h
 | d + 1, a, e, h => Ta (fun a e h => Qx h) h
theorem Sl.both {α : Type} {R : α → List Value → Prop} {esz : Nat} {H : Hp} {v : Value} {l : List α} (h : Sl R esz H v l) {i : Nat} (hi : i < l.length) : ∃ id p o, H[id]? = some o ∧ p + esz ≤ o.length ∧ Ae v = [id] ∧ R l[i] ((o.drop p).take esz) ∧
  (∀ (s : St) (x y : X), Av s.ρ x = some v → Av s.ρ y = some (.int .i64 i) → B4 s esz x y = some (.val (.pointer (some ⟨id, p, some o.length⟩)), s)) ∧
  ∀ a cs, cs.length = esz → R a cs → Sl R esz (H.set id (spl o p cs)) v (l.set i a) := by
 obtain ⟨id, p, o, h1, h2, h3, h4, h5⟩ := h.store hi
 obtain ⟨id', p', o', g1, g2, g3, g4⟩ := h.elem (B7 hi)
 have e1 := h4 { ρ := fun t => if t = 0 then .val v else .val (.int .i64 i), gn := 0, H := [] } (.t 0) (.t 1) rfl rfl
 have e2 := g4 { ρ := fun t => if t = 0 then .val v else .val (.int .i64 i), gn := 0, H := [] } (.t 0) (.t 1) rfl rfl
 rw [e1] at e2
 simp only [Option.some.injEq, Prod.mk.injEq, FV.val.injEq, Value.pointer.injEq, Addr.mk.injEq, and_true] at e2
 obtain ⟨rfl, rfl, _⟩ := e2
 rw [h1] at g1
 cases g1
 exact ⟨id, p, o, h1, h2, h3, g2, h4, h5⟩
theorem cX {o cs : List Value} {p n j : Nat} {x : Value} (hc : (o.drop p).take n = cs) (hj : j < n) (hl : p + n ≤ o.length) : spl o (p + j) [x] = spl o p (cs.set j x) := by
 have hcl : cs.length = n := by rw [← hc, List.length_take, List.length_drop]; omega
 refine List.ext_getElem? fun k => ?_
 rw [Ec, Ec, List.length_set, hcl]
 by_cases hk : p ≤ k ∧ k < p + n
 ·have hko : k < o.length := by omega
  rw [if_pos hk]
  simp only [if_pos hko]
  obtain ⟨hk1, hk2⟩ := hk
  by_cases hkj : k = p + j
  ·subst hkj
   rw [if_pos (by simp), Nat.add_sub_cancel_left, List.getElem?_set_self (by omega), Nat.sub_self]
   rfl
  ·rw [if_neg (by simp; omega), List.getElem?_set_ne (by omega), ← hc, Y0 (by omega)]
   congr 1
   omega
 ·rw [if_neg hk, if_neg (by simp; omega)]
attribute [go_sem] Gt Gy E2 Gs E6 F6 Dk Ha Jo O2 Ix Oc Iq O0 C0 nZ zL jV Option.isSome_some Nat.le_refl Er O5 O9 Db Dp Dt E5 Dl Cz Ep Dg Jc Es Ua Ai Ka Rk ex Av Dw Dr Dj Cb St.val J4 Hc Bd Gc Ub Ui J8 beq_true beq_false if_true if_false List.getElem?_cons_zero List.getElem?_cons_succ Fe Jz B6 Ad.fv Ad.live Ge List.length_cons List.length_nil List.drop_zero List.drop_succ_cons List.take_succ_cons List.take_zero Nat.zero_add Nat.add_zero J6 Gj Ij F9 Eh Qn Nm Gm Gn Et G5 G0 Iz Jd C5 Bv List.reverse_cons List.reverse_nil List.nil_append List.cons_append Kd Bool.and_true Bool.true_and Bool.not_true Bool.not_false D5 Fd Mr true_and and_true D6 Ey Iy Jm Jl I4 Jf I9 Iv I8 Iu Dm Cx Dn Bi implies_true Bool.and_self Ds B3 Cw Bs Cd Cg Cy Df De List.take_length decide_true decide_false Option.some.injEq Value.bool.injEq Value.int.injEq Bool.false_and Bool.and_false not_false_eq_true not_true_eq_false D4 List.length_set Bool.not_eq_true Bool.not_eq_false List.all_cons List.all_nil Fb Ba B5 Ke Gd Uf Ff List.size_toArray List.append_nil List.singleton_append Fy D3 List.isEmpty_nil List.isEmpty_cons J5 I2 B8 E0 C7 Ew E3 Dv List.map_cons List.map_nil
namespace K
abbrev I := Option (Nat × Bool) → List Nat → Nat → CO
def n : Nat → List I → List CO
  | _, [] => []
  | i, f :: fs => f none [] i :: n (i + 1) fs
def R (l : List I) : CC := .reg false (n 0 l)
def D (l : List I) : CC := .reg true (n 0 l)
def Q : List CC → CC
  | [] => .skip
  | [a] => a
  | a :: b :: l => .seq a (Q (b :: l))
def t : List Nat → List X
  | [] => []
  | a :: l => .t a :: t l
def k (d : Nat) (c : CK) : I := fun g p i => ⟨some d, g, c, i, p⟩
def s (n x v : Nat) : I := fun g p i => ⟨none, g, .store n (.t x) (.t v), i, p⟩
def S (n x : Nat) (v : X) : I := fun g p i => ⟨none, g, .store n (.t x) v, i, p⟩
def G (t : Nat) (f : I) : I := fun _ p i => f (some (t, true)) p i
def H (t : Nat) (f : I) : I := fun _ p i => f (some (t, false)) p i
def p (l : List Nat) (f : I) : I := fun g _ i => f g l i
def m (d x : Nat) : I := k d (.mov (.t x))
def c (d : Nat) (x : Value) : I := k d (.mov (.c x))
def j (d : Nat) (x : Int) : I := k d (.mov (.c (.int .i64 x)))
def z (d : Nat) (x : Bool) : I := k d (.mov (.c (.bool x)))
def l (d x : Nat) : I := k d (.load 1 false (.t x))
def L (d n x : Nat) : I := k d (.load n true (.t x))
def f (d o x : Nat) : I := k d (.fadr o (.t x))
def e (d x i : Nat) : I := k d (.ext (.t x) i)
def b (d : Nat) (o : BinOp) (x y : Nat) : I := k d (.bin o (.t x) (.t y))
def B (d : Nat) (o : BinOp) (x : Nat) (y : Int) : I := k d (.bin o (.t x) (.c (.int .i64 y)))
def C (d f : Nat) (a : List Nat) : I := k d (.call f (t a))
def E (d f : Nat) (a : List X) : I := k d (.call f a)
def u (d x : Nat) : I := k d (.un .not (.t x))
def o (d c x : Nat) : I := k d (.pick (.t c) (.c (.bool true)) (.t x))
def a (d c x : Nat) : I := k d (.pick (.t c) (.t x) (.c (.bool false)))
def h (d x : Nat) : I := k d (.lenS (.t x))
def A (d e x i : Nat) : I := k d (.iadr e (.t x) (.t i))
def N (d : Nat) (v : List Value) : I := k d (.newV v)
def M (d x : Nat) : I := k d (.boxV (.t x))
def i (n : Int) : X := .c (.int .i64 n)
def W (c : Nat) (a b : CC) : CC := .cond (.t c) a b
def J (c : Nat) (a : CC) : CC := .cond (.t c) a .skip
def U (c : Nat) (a : CC) : CC := .cond (.t c) .skip a
def F (b : Nat) (a : CC) : CC := .block b (.loop a)
def y0 : List Value := [.int .i64 0]
def y1 : List Value := [.int .i64 0,.int .i64 0,.int .i64 0]
def y2 : List Value := [.int .i64 0,.int .i64 0,.int .i64 0,.int .i64 0,.int .i64 0,.int .i64 0,.int .i64 0,.int .i64 0,.string ⟨#[]⟩]
def y3 : List Value := [.slice .none 0 0,.slice .none 0 0,.slice .none 0 0,.slice .none 0 0,.int .i64 0,.int .i64 0,.int .i64 0,.slice .none 0 0,.slice .none 0 0,.slice .none 0 0,.slice .none 0 0,.slice .none 0 0,.slice .none 0 0,.slice .none 0 0,.slice .none 0 0,.slice .none 0 0]
def y4 : List Value := [.string ⟨#[]⟩]
def y5 : List Value := [.int .i64 0,.int .i64 0,.int .i64 0,.int .i64 0,.int .i64 0,.int .i64 0,.slice .none 0 0,.slice .none 0 0]
def y6 : List Value := [.int .i64 0,.int .i64 0,.int .i64 0,.int .i64 0,.int .i64 0,.int .i64 0]
def y7 : List Value := [.int .i64 0,.int .i64 0,.int .i64 0,.int .i64 0,.int .i64 0,.int .i64 0,.int .i64 0,.int .i64 0,.int .i64 0,.int .i64 0,.int .i64 0,.slice .none 0 0,.slice .none 0 0,.int .i64 0,.string ⟨#[]⟩]
def y8 : List Value := [.int .i64 0,.slice .none 0 0]
def y9 : List Value := [.int .i64 0,.int .i64 0,.int .i64 0,.int .i64 0,.int .i64 0,.int .i64 0,.int .i64 0,.string ⟨#[]⟩]
def y10 : List Value := [.int .u8 0]
def y11 : List Value := [.int .i64 0,.int .i64 0]
def y12 : List Value := [.bool false,.int .i64 0,.int .i64 0,.int .i64 0]
def y13 : List Value := [.int .i64 0,.int .i64 0,.int .i64 0,.int .i64 0,.int .i64 0,.int .i64 0,.int .i64 0,.int .i64 0,.int .i64 0,.int .i64 0,.int .i64 0]
def y14 : List Value := [.slice .none 0 0,.slice .none 0 0,.slice .none 0 0,.slice .none 0 0,.int .i64 0]
def y15 : List Value := [.int .i64 0,.string ⟨#[]⟩,.int .i64 0,.int .i64 0,.int .i64 0,.int .i64 0,.int .i64 0,.int .i64 0,.int .i64 0,.int .i64 0,.int .i64 0,.int .i64 0,.int .i64 0]
def y16 : List Value := [.slice .none 0 0,.slice .none 0 0]
end K
attribute [go_sem] K.n K.R K.D K.Q K.t K.k K.s K.S K.G K.H K.p K.m K.c K.j K.z K.l K.L K.f K.e K.b K.B K.C K.E K.u K.o K.a K.h K.A K.N K.M K.i K.W K.J K.U K.F K.y0 K.y1 K.y2 K.y3 K.y4 K.y5 K.y6 K.y7 K.y8 K.y9 K.y10 K.y11 K.y12 K.y13 K.y14 K.y15 K.y16
structure V {α : Type} (a : α) where
  b : α
  h : a = b := by dsimp only [go_sem, Nat.reduceAdd]
def hvT : List (Nat × List Nat) := [(3, [1, 4, 5, 6]), (4, [1, 5]), (5, [1, 5]), (6, [3, 5]), (7, [2]), (8, [1, 2, 3]), (9, [1, 2, 3]), (10, [1, 2, 3, 5]), (11, [2, 3]), (12, [2, 3]), (13, [1, 6, 9]), (14, [1, 5, 7, 21]), (15, [1]), (16, [1, 3, 5]), (18, [2]), (19, [1, 8]), (20, [2]), (22, [2]), (29, [1, 2, 3]), (31, [1, 2, 3]), (38, [1, 4, 6, 8, 10]), (39, [2, 3]), (41, [2, 3]), (53, [4, 5, 53, 75, 84, 99]), (55, [1]), (56, [1]), (58, [1]), (59, [1]), (60, [1]), (64, [2]), (65, [2]), (66, [2]), (68, [1, 2, 3]), (69, [1, 2, 3]), (70, [1, 2, 3]), (71, [1, 2, 3]), (72, [1, 2, 3]), (73, [1]), (74, [1]), (75, [1, 4]), (76, [2]), (80, [1]), (83, [1]), (85, [2, 3]), (86, [2, 3]), (87, [2, 3]), (88, [2, 3]), (89, [2, 3]), (90, [26, 31]), (91, [4, 5, 6]), (96, [2, 3]), (97, [8]), (101, [1]), (102, [1]), (103, [3]), (105, [1, 2, 3]), (106, [1, 2, 3]), (108, [1, 2, 3]), (113, [1]), (114, [1]), (115, [3]), (121, [6]), (122, [1]), (123, [1]), (126, [2, 3]), (127, [2, 3]), (129, [2, 3]), (130, [2, 3, 22, 33, 57, 81]), (131, [2, 4, 7, 10, 45]), (132, [4, 7, 14, 87, 113]), (134, [52]), (136, [2, 3, 27, 40, 49, 79]), (138, [2]), (139, [3]), (141, [3]), (143, [3]), (145, [1, 2, 4, 12, 21]), (146, [2, 3, 4, 6]), (147, [5, 8, 54, 74, 96]), (148, [2]), (149, [3, 4, 9]), (151, [34]), (155, [2, 3]), (156, [2, 3]), (157, [1]), (158, [26]), (159, [1]), (160, [15, 22]), (162, [3]), (163, [1, 2, 3, 7, 11, 15]), (164, [0]), (165, [2, 3]), (166, [2, 3, 4, 7, 9, 126]), (167, [3]), (168, [3, 13]), (169, [5]), (172, [15, 22]), (175, [2, 4, 6]), (178, [2, 3, 4, 6, 9, 11]), (179, [2, 3, 4, 6, 7, 48]), (180, [2, 3, 4, 6, 7, 50]), (181, [3, 4]), (182, [2, 3, 4, 6, 7, 54, 1007]), (184, [2, 4]), (185, [2]), (186, [2, 4, 18]), (187, [4]), (188, [2, 15]), (189, [1]), (190, [47]), (191, [9, 11]), (192, [2]), (196, [5, 10]), (197, [10, 16]), (198, [5, 8, 10, 11, 17, 19, 21]), (199, [1, 2, 3, 7]), (200, [31, 38, 44]), (201, [1, 73, 102]), (203, [2, 4, 23]), (204, [2]), (205, [36]), (206, [7, 14, 19, 20, 21, 22]), (207, [7, 14, 15, 17, 20, 23, 24, 27, 30, 103]), (208, [4, 14, 16]), (209, [1, 2]), (210, [4, 14, 20]), (211, [4, 10]), (212, [4]), (213, [4, 5, 8, 76, 84]), (218, [7, 8]), (219, [2, 11]), (220, [2, 6]), (221, [3, 6, 9, 12]), (222, [2, 3, 4, 5]), (223, [8, 11, 13, 15, 16, 19, 98]), (224, [1])]
def hv (f t : Nat) : Bool := match hvT.find? (·.1 == f) with | some p => p.2.contains t | none => false
def trT : List Nat := [7, 8, 10, 11, 12, 13, 14, 15, 16, 17, 19, 20, 21, 22, 23, 24, 25, 26, 27, 28, 38, 39, 40, 41, 42, 43, 44, 45, 46, 47, 48, 49, 50, 51, 55, 56, 57, 58, 59, 60, 61, 62, 63, 64, 65, 66, 73, 74, 75, 76, 77, 78, 79, 80, 81, 82, 83, 84, 85, 86, 87, 88, 89, 90, 92, 93, 94, 97, 98, 99, 100, 101, 102, 103, 104, 109, 110, 111, 112, 113, 114, 115, 116, 117, 118, 119, 120, 121, 122, 123, 124, 125, 126, 127, 128, 129, 133, 139, 140, 141, 142, 143, 144, 157, 160, 161, 162, 172, 54, 150, 152, 153, 154, 158, 159, 138, 170, 171, 173, 174, 176, 177, 181, 183, 185, 191, 192, 193, 194, 195, 197, 202, 204, 206, 207, 218, 196, 208, 211, 212, 214, 215, 216, 217, 219, 220, 222, 224, 225, 226, 148, 167, 169, 151, 95, 135, 137, 168, 149, 155, 156, 96, 165]
noncomputable def EE : Hb := { fns := Py Go.Proofs.Tryz.prog hv, prim := fun _ => none, pw := fun f => [150, 177].contains f, tr := fun f => trT.contains f }
section
open K
def c3 : CF := ({ b := _ } : V (α := CF) ⟨28,Q [R [M 1 0,z 2 false],R [j 3 1048576],R [L 7 16 1,m 8 3,C 9 7 [7,8],m 3 9],Q [R [m 10 3,B 11 .lss 10 0],J 11 (Q [R [z 2 true],.ret])],R [L 12 16 1,C 13 9 [12],C 14 8 [13],N 4 y6,s 6 4 14],R [L 15 16 1,C 16 9 [15],N 5 y3,s 16 5 16],R [L 17 16 5,C 18 10 [17],N 6 y6,s 6 6 18],Q [R [L 19 6 6,L 20 6 4,C 21 11 [19,20],u 22 21],J 22 (Q [R [z 2 false],.ret])],Q [D [L 23 16 5,L 24 16 1,p [1] (C 25 9 [24]),p [0,2,1] (C 26 12 [23,25]),p [3,0,2,1] (u 27 26)],J 27 (Q [R [z 2 false],.ret])],R [z 2 true],.ret],[.t 2]⟩).b
theorem k3 : EE.fns 3 = some c3 := by kernel_rfl
def c4 : CF := ({ b := _ } : V (α := CF) ⟨27,Q [R [M 1 0,z 2 false],R [j 3 1048576],R [L 7 16 1,m 8 3,C 9 7 [7,8],m 3 9],Q [R [m 10 3,B 11 .lss 10 0],J 11 (Q [R [z 2 true],.ret])],R [L 12 16 1,C 13 9 [12],C 14 13 [13],m 4 14],R [L 15 16 1,C 16 9 [15],N 5 y3,s 16 5 16],R [L 17 16 5,C 18 14 [17],m 6 18],Q [R [m 19 6,m 20 4,b 21 .neq 19 20],J 21 (Q [R [z 2 false],.ret])],Q [D [L 22 16 5,L 23 16 1,p [1] (C 24 9 [23]),p [0,2,1] (C 25 12 [22,24]),p [3,0,2,1] (u 26 25)],J 26 (Q [R [z 2 false],.ret])],R [z 2 true],.ret],[.t 2]⟩).b
theorem k4 : EE.fns 4 = some c4 := by kernel_rfl
def c5 : CF := ({ b := _ } : V (α := CF) ⟨27,Q [R [M 1 0,z 2 false],R [j 3 1048576],R [L 7 16 1,m 8 3,C 9 7 [7,8],m 3 9],Q [R [m 10 3,B 11 .lss 10 0],J 11 (Q [R [z 2 true],.ret])],R [L 12 16 1,C 13 9 [12],C 14 15 [13],m 4 14],R [L 15 16 1,C 16 9 [15],N 5 y3,s 16 5 16],R [L 17 16 5,C 18 16 [17],m 6 18],Q [R [m 19 6,m 20 4,b 21 .neq 19 20],J 21 (Q [R [z 2 false],.ret])],Q [D [L 22 16 5,L 23 16 1,p [1] (C 24 9 [23]),p [0,2,1] (C 25 12 [22,24]),p [3,0,2,1] (u 26 25)],J 26 (Q [R [z 2 false],.ret])],R [z 2 true],.ret],[.t 2]⟩).b
theorem k5 : EE.fns 5 = some c5 := by kernel_rfl
def c7 : CF := ({ b := _ } : V (α := CF) ⟨60,Q [R [M 2 0,j 4 0],R [f 5 0 2,L 6 5 5,m 7 1,C 8 20 [6,7],m 1 8],Q [R [m 9 1,B 10 .lss 9 0],J 10 (Q [R [j 4 (-1)],.ret])],R [f 11 7 2,l 12 11,m 13 1,C 14 21 [12,13],m 1 14],Q [R [m 15 1,B 16 .lss 15 0],J 16 (Q [R [j 4 (-1)],.ret])],R [f 17 8 2,L 18 2 17,m 19 1,C 20 22 [18,19],m 1 20],Q [R [m 21 1,B 22 .lss 21 0],J 22 (Q [R [j 4 (-1)],.ret])],R [f 23 10 2,l 24 23,m 25 1,C 26 23 [24,25],m 1 26],Q [R [m 27 1,B 28 .lss 27 0],J 28 (Q [R [j 4 (-1)],.ret])],R [f 29 11 2,l 30 29,m 31 1,C 32 24 [30,31],m 1 32],Q [R [m 33 1,B 34 .lss 33 0],J 34 (Q [R [j 4 (-1)],.ret])],R [f 35 12 2,l 36 35,m 37 1,C 38 25 [36,37],m 1 38],Q [R [m 39 1,B 40 .lss 39 0],J 40 (Q [R [j 4 (-1)],.ret])],R [f 41 13 2,l 42 41,m 43 1,C 44 26 [42,43],m 1 44],Q [R [m 45 1,B 46 .lss 45 0],J 46 (Q [R [j 4 (-1)],.ret])],R [f 47 14 2,l 48 47,m 49 1,C 50 27 [48,49],m 1 50],Q [R [m 51 1,B 52 .lss 51 0],J 52 (Q [R [j 4 (-1)],.ret])],R [f 53 15 2,l 54 53,m 55 1,C 56 28 [54,55],m 1 56],Q [R [m 57 1,B 58 .lss 57 0],J 58 (Q [R [j 4 (-1)],.ret])],R [m 59 1,m 4 59],.ret],[.t 4]⟩).b
theorem k7 : EE.fns 7 = some c7 := by kernel_rfl
def c8 : CF := ({ b := _ } : V (α := CF) ⟨56,Q [R [M 1 0,N 2 y6],R [k 5 (.build y6 []),N 3 y6,s 6 3 5],Q [R [L 6 16 1,C 7 19 [6],u 8 7],J 8 (Q [R [L 9 6 3,s 6 2 9],.ret])],Q [R [j 4 0],F 0 (Q [Q [R [m 10 4,f 11 13 1,l 12 11,h 13 12,b 14 .lss 10 13],U 14 (.exit 0)],.block 1 (Q [R [f 17 13 1,l 18 17,m 19 4,A 20 11 18 19,f 21 0 20,l 22 21],.block 2 (Q [R [B 24 .eql 22 1,m 23 24],W 23 (R [f 25 0 3,l 26 25,B 27 .add 26 1,f 28 0 3,s 1 28 27]) (Q [R [B 30 .eql 22 2,m 29 30],W 29 (R [f 31 1 3,l 32 31,B 33 .add 32 1,f 34 1 3,s 1 34 33]) (Q [R [B 36 .eql 22 3,m 35 36],W 35 (R [f 37 2 3,l 38 37,B 39 .add 38 1,f 40 2 3,s 1 40 39]) (Q [R [B 42 .eql 22 4,m 41 42],J 41 (R [f 43 3 3,l 44 43,B 45 .add 44 1,f 46 3 3,s 1 46 45])])])])])]),R [m 15 4,B 16 .add 15 1,m 4 16]])],R [f 47 14 1,l 48 47,h 49 48,f 50 4 3,s 1 50 49],R [f 51 15 1,l 52 51,h 53 52,f 54 5 3,s 1 54 53],R [L 55 6 3,s 6 2 55],.ret],[.cell 2 6 true]⟩).b
theorem k8 : EE.fns 8 = some c8 := by kernel_rfl
def c9 : CF := ({ b := _ } : V (α := CF) ⟨47,Q [R [M 1 0,N 2 y3],R [N 3 y3],R [f 4 0 1,L 5 5 4,C 6 29 [5],f 7 0 3,s 5 7 6],R [f 8 5 1,l 9 8,f 10 5 3,s 1 10 9],R [f 11 6 1,l 12 11,f 13 6 3,s 1 13 12],R [f 14 7 1,l 15 14,C 16 30 [15],f 17 7 3,s 1 17 16],R [f 18 8 1,L 19 2 18,C 20 31 [19],f 21 8 3,s 2 21 20],R [f 22 10 1,l 23 22,C 24 32 [23],f 25 10 3,s 1 25 24],R [f 26 11 1,l 27 26,C 28 33 [27],f 29 11 3,s 1 29 28],R [f 30 12 1,l 31 30,C 32 34 [31],f 33 12 3,s 1 33 32],R [f 34 13 1,l 35 34,C 36 35 [35],f 37 13 3,s 1 37 36],R [f 38 14 1,l 39 38,C 40 36 [39],f 41 14 3,s 1 41 40],R [f 42 15 1,l 43 42,C 44 37 [43],f 45 15 3,s 1 45 44],R [L 46 16 3,s 16 2 46],.ret],[.cell 2 16 true]⟩).b
theorem k9 : EE.fns 9 = some c9 := by kernel_rfl
def eY : CF := ({ b := _ } : V (α := CF) ⟨52,Q [R [M 1 0,N 2 y6],Q [R [L 6 16 1,C 7 38 [6],u 8 7],J 8 (Q [R [k 9 (.build y6 []),s 6 2 9],.ret])],R [f 10 14 1,l 11 10,h 12 11,f 13 15 1,l 14 13,h 15 14,k 16 (.build y6 [(4,(1,.t 12)),(5,(1,.t 15))]),N 3 y6,s 6 3 16],Q [R [f 17 13 1,l 18 17,h 19 18,j 20 0],F 0 (Q [R [b 21 .lss 20 19],U 21 (.exit 0),.block 1 (Q [R [A 22 11 18 20,L 23 11 22,N 5 y13,s 11 5 23],R [f 24 0 5,l 25 24],.block 2 (Q [R [B 27 .eql 25 1,m 26 27],W 26 (R [f 28 0 3,l 29 28,B 30 .add 29 1,f 31 0 3,s 1 31 30]) (Q [R [B 33 .eql 25 2,m 32 33],W 32 (R [f 34 1 3,l 35 34,B 36 .add 35 1,f 37 1 3,s 1 37 36]) (Q [R [B 39 .eql 25 3,m 38 39],W 38 (R [f 40 2 3,l 41 40,B 42 .add 41 1,f 43 2 3,s 1 43 42]) (Q [R [B 45 .eql 25 4,m 44 45],J 44 (R [f 46 3 3,l 47 46,B 48 .add 47 1,f 49 3 3,s 1 49 48])])])])])]),R [B 50 .add 20 1,m 20 50]])],R [L 51 6 3,s 6 2 51],.ret],[.cell 2 6 true]⟩).b
theorem k10 : EE.fns 10 = some eY := by kernel_rfl
def c11 : CF := ({ b := _ } : V (α := CF) ⟨35,Q [R [M 2 0,M 3 1,z 4 false],Q [R [f 5 0 2,l 6 5,f 7 0 3,l 8 7,b 9 .neq 6 8],J 9 (Q [R [z 4 false],.ret])],Q [R [f 10 1 2,l 11 10,f 12 1 3,l 13 12,b 14 .neq 11 13],J 14 (Q [R [z 4 false],.ret])],Q [R [f 15 2 2,l 16 15,f 17 2 3,l 18 17,b 19 .neq 16 18],J 19 (Q [R [z 4 false],.ret])],Q [R [f 20 3 2,l 21 20,f 22 3 3,l 23 22,b 24 .neq 21 23],J 24 (Q [R [z 4 false],.ret])],Q [R [f 25 4 2,l 26 25,f 27 4 3,l 28 27,b 29 .neq 26 28],J 29 (Q [R [z 4 false],.ret])],Q [R [f 30 5 2,l 31 30,f 32 5 3,l 33 32,b 34 .neq 31 33],J 34 (Q [R [z 4 false],.ret])],R [z 4 true],.ret],[.t 4]⟩).b
theorem Rc : EE.fns 11 = some c11 := by kernel_rfl
def c12 : CF := ({ b := _ } : V (α := CF) ⟨69,Q [R [M 2 0,M 3 1,z 4 false],Q [R [f 5 0 2,L 6 5 5,f 7 0 3,L 8 5 7,C 9 39 [6,8],u 10 9],J 10 (Q [R [z 4 false],.ret])],Q [R [f 11 5 2,l 12 11,f 13 5 3,l 14 13,b 15 .neq 12 14],J 15 (Q [R [z 4 false],.ret])],Q [R [f 16 6 2,l 17 16,f 18 6 3,l 19 18,b 20 .neq 17 19],J 20 (Q [R [z 4 false],.ret])],Q [R [f 21 7 2,l 22 21,f 23 7 3,l 24 23,C 25 40 [22,24],u 26 25],J 26 (Q [R [z 4 false],.ret])],Q [R [f 27 8 2,L 28 2 27,f 29 8 3,L 30 2 29,C 31 41 [28,30],u 32 31],J 32 (Q [R [z 4 false],.ret])],Q [R [f 33 10 2,l 34 33,f 35 10 3,l 36 35,C 37 42 [34,36],u 38 37],J 38 (Q [R [z 4 false],.ret])],Q [R [f 39 11 2,l 40 39,f 41 11 3,l 42 41,C 43 43 [40,42],u 44 43],J 44 (Q [R [z 4 false],.ret])],Q [R [f 45 12 2,l 46 45,f 47 12 3,l 48 47,C 49 44 [46,48],u 50 49],J 50 (Q [R [z 4 false],.ret])],Q [R [f 51 13 2,l 52 51,f 53 13 3,l 54 53,C 55 45 [52,54],u 56 55],J 56 (Q [R [z 4 false],.ret])],Q [R [f 57 14 2,l 58 57,f 59 14 3,l 60 59,C 61 46 [58,60],u 62 61],J 62 (Q [R [z 4 false],.ret])],Q [R [f 63 15 2,l 64 63,f 65 15 3,l 66 65,C 67 47 [64,66],u 68 67],J 68 (Q [R [z 4 false],.ret])],R [z 4 true],.ret],[.t 4]⟩).b
theorem nT : EE.fns 12 = some c12 := by kernel_rfl
def c13 : CF := ({ b := _ } : V (α := CF) ⟨98,Q [R [M 1 0,c 2 (.string ⟨#[]⟩)],Q [R [L 10 16 1,C 11 19 [10],u 12 11],J 12 (Q [R [c 2 (.string ⟨#[]⟩)],.ret])],R [k 13 (.mkO 5 1 y4 [(0,.c (.string ⟨#[]⟩)),(1,.c (.string ⟨#[108,111,103,105,110]⟩)),(2,.c (.string ⟨#[105,115,115,117,101]⟩)),(3,.c (.string ⟨#[114,101,102,101,114]⟩)),(4,.c (.string ⟨#[100,101,108,101,103,97,116,101]⟩))]),m 3 13],R [c 4 (.string ⟨#[]⟩)],Q [R [j 5 0],F 0 (Q [Q [R [m 14 5,f 15 13 1,l 16 15,h 17 16,b 18 .lss 14 17],U 18 (.exit 0)],.block 1 (Q [R [f 21 13 1,l 22 21,m 23 5,A 24 11 22 23,L 25 11 24,N 6 y13,s 11 6 25],R [c 7 (.string ⟨#[101,118,101,110,116]⟩)],Q [R [f 26 0 6,l 27 26,E 28 48 [.t 27,i 1,i 4]],J 28 (R [m 29 3,f 30 0 6,l 31 30,A 32 1 29 31,l 33 32,m 7 33])],D [m 34 4,m 35 7,p [0,1] (b 36 .add 34 35),p [2,0,1] (k 37 (.bin .add (.t 36) (.c (.string ⟨#[32]⟩)))),f 38 1 6,p [4] (l 39 38),p [5,4] (C 40 49 [39]),p [3,2,0,1,6,5,4] (b 41 .add 37 40),p [7,3,2,0,1,6,5,4] (k 42 (.bin .add (.t 41) (.c (.string ⟨#[32]⟩)))),f 43 2 6,p [9] (l 44 43),p [10,9,6,5,4] (C 45 49 [44]),p [8,7,3,2,0,1,6,5,4,11,10,9] (b 46 .add 42 45),p [12,8,7,3,2,0,1,6,5,4,11,10,9] (k 47 (.bin .add (.t 46) (.c (.string ⟨#[32]⟩)))),f 48 3 6,p [14] (l 49 48),p [15,14,11,10,9,6,5,4] (C 50 49 [49]),p [13,12,8,7,3,2,0,1,6,5,4,11,10,9,16,15,14] (b 51 .add 47 50),p [17,13,12,8,7,3,2,0,1,6,5,4,11,10,9,16,15,14] (k 52 (.bin .add (.t 51) (.c (.string ⟨#[32]⟩)))),f 53 4 6,p [19] (l 54 53),p [20,19,16,15,14,11,10,9,6,5,4] (C 55 49 [54]),p [18,17,13,12,8,7,3,2,0,1,6,5,4,11,10,9,16,15,14,21,20,19] (b 56 .add 52 55),p [22,18,17,13,12,8,7,3,2,0,1,6,5,4,11,10,9,16,15,14,21,20,19] (k 57 (.bin .add (.t 56) (.c (.string ⟨#[32]⟩)))),f 58 5 6,p [24] (l 59 58),p [25,24,21,20,19,16,15,14,11,10,9,6,5,4] (C 60 49 [59]),p [23,22,18,17,13,12,8,7,3,2,0,1,6,5,4,11,10,9,16,15,14,21,20,19,26,25,24] (b 61 .add 57 60),p [27,23,22,18,17,13,12,8,7,3,2,0,1,6,5,4,11,10,9,16,15,14,21,20,19,26,25,24] (k 62 (.bin .add (.t 61) (.c (.string ⟨#[10]⟩)))),p [28,27,23,22,18,17,13,12,8,7,3,2,0,1,6,5,4,11,10,9,16,15,14,21,20,19,26,25,24] (m 4 62)]]),R [m 19 5,B 20 .add 19 1,m 5 20]])],Q [R [j 8 0],F 2 (Q [Q [R [m 63 8,f 64 14 1,l 65 64,h 66 65,b 67 .lss 63 66],U 67 (.exit 2)],.block 3 (Q [R [f 70 14 1,l 71 70,m 72 8,A 73 15 71 72,L 74 15 73,N 9 y7,s 15 9 74],D [m 75 4,p [0] (k 76 (.bin .add (.t 75) (.c (.string ⟨#[97,99,99,101,112,116,32]⟩)))),f 77 0 9,p [2] (l 78 77),p [3,2] (C 79 49 [78]),p [1,0,4,3,2] (b 80 .add 76 79),p [5,1,0,4,3,2] (k 81 (.bin .add (.t 80) (.c (.string ⟨#[32]⟩)))),f 82 1 9,p [7] (l 83 82),p [8,7,4,3,2] (C 84 49 [83]),p [6,5,1,0,4,3,2,9,8,7] (b 85 .add 81 84),p [10,6,5,1,0,4,3,2,9,8,7] (k 86 (.bin .add (.t 85) (.c (.string ⟨#[32]⟩)))),f 87 3 9,p [12] (l 88 87),p [13,12,9,8,7,4,3,2] (C 89 49 [88]),p [11,10,6,5,1,0,4,3,2,9,8,7,14,13,12] (b 90 .add 86 89),p [15,11,10,6,5,1,0,4,3,2,9,8,7,14,13,12] (k 91 (.bin .add (.t 90) (.c (.string ⟨#[32]⟩)))),f 92 4 9,p [17] (l 93 92),p [18,17,14,13,12,9,8,7,4,3,2] (C 94 49 [93]),p [16,15,11,10,6,5,1,0,4,3,2,9,8,7,14,13,12,19,18,17] (b 95 .add 91 94),p [20,16,15,11,10,6,5,1,0,4,3,2,9,8,7,14,13,12,19,18,17] (k 96 (.bin .add (.t 95) (.c (.string ⟨#[10]⟩)))),p [21,20,16,15,11,10,6,5,1,0,4,3,2,9,8,7,14,13,12,19,18,17] (m 4 96)]]),R [m 68 8,B 69 .add 68 1,m 8 69]])],R [m 97 4,m 2 97],.ret],[.t 2]⟩).b
theorem iU : EE.fns 13 = some c13 := by kernel_rfl
def c14 : CF := ({ b := _ } : V (α := CF) ⟨57,Q [R [M 1 0,c 2 (.string ⟨#[]⟩)],Q [R [L 8 16 1,C 9 38 [8],u 10 9],J 10 (Q [R [c 2 (.string ⟨#[]⟩)],.ret])],R [c 3 (.string ⟨#[]⟩)],Q [R [f 11 13 1,l 12 11,h 13 12,j 14 0],F 0 (Q [R [b 15 .lss 14 13],U 15 (.exit 0),.block 1 (Q [R [A 16 11 12 14,L 17 11 16,N 5 y13,s 11 5 17],D [m 18 3,f 19 0 5,p [1] (l 20 19),p [2,1] (k 21 (.pureC 51 [.t 20])),f 22 1 5,p [4] (l 23 22),f 24 2 5,p [6] (l 25 24),f 26 3 5,p [8] (l 27 26),f 28 4 5,p [10] (l 29 28),f 30 5 5,p [12] (l 31 30),p [5,4,7,6,9,8,11,10,13,12] (k 32 (.mkO 5 1 y0 [(0,.t 23),(1,.t 25),(2,.t 27),(3,.t 29),(4,.t 31)])),p [3,2,1,14,5,4,7,6,9,8,11,10,13,12] (C 33 50 [21,32]),p [0,15,3,2,1,14,5,4,7,6,9,8,11,10,13,12] (b 34 .add 18 33),p [16,0,15,3,2,1,14,5,4,7,6,9,8,11,10,13,12] (m 3 34)]]),R [B 35 .add 14 1,m 14 35]])],Q [R [f 36 14 1,l 37 36,h 38 37,j 39 0],F 2 (Q [R [b 40 .lss 39 38],U 40 (.exit 2),.block 3 (Q [R [A 41 15 37 39,L 42 15 41,N 7 y7,s 15 7 42],R [m 43 3,f 44 0 7,l 45 44,f 46 1 7,l 47 46,f 48 3 7,l 49 48,f 50 4 7,l 51 50,k 52 (.mkO 4 1 y0 [(0,.t 45),(1,.t 47),(2,.t 49),(3,.t 51)]),E 53 50 [.c (.string ⟨#[97,99,99,101,112,116]⟩),.t 52],b 54 .add 43 53,m 3 54]]),R [B 55 .add 39 1,m 39 55]])],R [m 56 3,m 2 56],.ret],[.t 2]⟩).b
theorem Il : EE.fns 14 = some c14 := by kernel_rfl
def c15 : CF := ({ b := _ } : V (α := CF) ⟨59,Q [R [M 1 0,j 2 0],R [j 3 (-1)],R [j 4 0],Q [R [j 5 0],F 0 (Q [Q [R [m 9 5,f 10 14 1,l 11 10,h 12 11,b 13 .lss 9 12,m 14 13,G 14 (L 15 16 1),G 14 (C 16 19 [15]),a 17 14 16],U 17 (.exit 0)],.block 1 (Q [R [f 20 14 1,l 21 20,m 22 5,A 23 15 21 22,f 24 0 23,l 25 24,m 6 25],R [j 7 0],Q [R [j 8 0],F 2 (Q [Q [R [m 26 8,f 27 14 1,l 28 27,h 29 28,b 30 .lss 26 29],U 30 (.exit 2)],.block 3 (Q [R [f 33 14 1,l 34 33,m 35 8,A 36 15 34 35,f 37 0 36,l 38 37,m 39 6,b 40 .eql 38 39],J 40 (R [m 41 7,B 42 .add 41 1,m 7 42])]),R [m 31 8,B 32 .add 31 1,m 8 32]])],R [m 43 7,m 44 4,b 45 .gtr 43 44,m 46 45,H 46 (m 47 7),H 46 (m 48 4),H 46 (b 49 .eql 47 48),H 46 (m 50 49),G 50 (m 51 6),G 50 (m 52 3),G 50 (b 53 .lss 51 52),H 46 (a 54 50 53),o 55 46 54],J 55 (Q [R [m 56 7,m 4 56],R [m 57 6,m 3 57]])]),R [m 18 5,B 19 .add 18 1,m 5 19]])],R [m 58 3,m 2 58],.ret],[.t 2]⟩).b
theorem Ks : EE.fns 15 = some c15 := by kernel_rfl
def uQ : CF := ({ b := _ } : V (α := CF) ⟨45,Q [R [M 1 0,j 2 0],Q [R [L 9 16 1,C 10 38 [9],u 11 10,m 12 11,H 12 (f 13 14 1),H 12 (l 14 13),H 12 (h 15 14),H 12 (B 16 .eql 15 0),o 17 12 16],J 17 (Q [R [j 2 (-1)],.ret])],R [N 3 y1],Q [R [f 18 14 1,l 19 18,h 20 19,j 21 0],F 0 (Q [R [b 22 .lss 21 20],U 22 (.exit 0),.block 1 (Q [R [A 23 15 19 21,L 24 15 23,N 5 y7,s 15 5 24],R [f 25 0 5,l 26 25,k 27 (.iadrA 3 1 (.t 3) (.t 26)),l 28 27,B 29 .add 28 1,k 30 (.iadrA 3 1 (.t 3) (.t 26)),s 1 30 29]]),R [B 31 .add 21 1,m 21 31]])],R [j 6 0],Q [R [L 32 3 3,j 33 0],F 2 (Q [R [B 34 .lss 33 3],U 34 (.exit 2),.block 3 (Q [R [m 35 33,k 36 (.idxA 3 (.t 32) (.t 33)),m 7 35,m 8 36],R [m 37 8,m 38 6,k 39 (.iadrA 3 1 (.t 3) (.t 38)),l 40 39,b 41 .gtr 37 40],J 41 (R [m 42 7,m 6 42])]),R [B 43 .add 33 1,m 33 43]])],R [m 44 6,m 2 44],.ret],[.t 2]⟩).b
theorem k16 : EE.fns 16 = some uQ := by kernel_rfl
def xD : CF := ({ b := _ } : V (α := CF) ⟨172,Q [R [M 1 0,z 2 false],Q [R [f 9 0 1,L 10 5 9,C 11 55 [10],u 12 11,m 13 12,H 13 (f 14 5 1),H 13 (l 15 14),H 13 (E 16 48 [.t 15,i 0,i 100000]),H 13 (u 17 16),o 18 13 17,m 19 18,H 19 (f 20 6 1),H 19 (l 21 20),H 19 (E 22 48 [.t 21,i 101,i 1000000]),H 19 (u 23 22),o 24 19 23,m 25 24,H 25 (f 26 7 1),H 25 (l 27 26),H 25 (h 28 27),H 25 (B 29 .gtr 28 50),o 30 25 29,m 31 30,H 31 (f 32 8 1),H 31 (L 33 2 32),H 31 (C 34 56 [33]),H 31 (u 35 34),o 36 31 35,m 37 36,H 37 (f 38 10 1),H 37 (l 39 38),H 37 (h 40 39),H 37 (B 41 .neq 40 6),o 42 37 41,m 43 42,H 43 (f 44 11 1),H 43 (l 45 44),H 43 (h 46 45),H 43 (B 47 .gtr 46 30),o 48 43 47,m 49 48,H 49 (f 50 12 1),H 49 (l 51 50),H 49 (h 52 51),H 49 (B 53 .neq 52 3),o 54 49 53,m 55 54,H 55 (f 56 13 1),H 55 (l 57 56),H 55 (h 58 57),H 55 (B 59 .gtr 58 40),o 60 55 59,m 61 60,H 61 (f 62 14 1),H 61 (l 63 62),H 61 (h 64 63),H 61 (B 65 .gtr 64 40),o 66 61 65,m 67 66,H 67 (f 68 15 1),H 67 (l 69 68),H 67 (h 70 69),H 67 (B 71 .gtr 70 40),o 72 67 71],J 72 (Q [R [z 2 false],.ret])],Q [R [j 3 0],F 0 (Q [Q [R [m 73 3,f 74 7 1,l 75 74,h 76 75,b 77 .lss 73 76],U 77 (.exit 0)],.block 1 (Q [R [f 80 7 1,l 81 80,m 82 3,A 83 1 81 82,l 84 83,C 85 57 [84],u 86 85],J 86 (Q [R [z 2 false],.ret])]),R [m 78 3,B 79 .add 78 1,m 3 79]])],Q [R [j 4 0],F 2 (Q [Q [R [m 87 4,f 88 10 1,l 89 88,h 90 89,b 91 .lss 87 90],U 91 (.exit 2)],.block 3 (Q [R [f 94 10 1,l 95 94,m 96 4,A 97 4 95 96,L 98 4 97,C 99 58 [98],u 100 99],J 100 (Q [R [z 2 false],.ret])]),R [m 92 4,B 93 .add 92 1,m 4 93]])],Q [R [j 5 0],F 4 (Q [Q [R [m 101 5,f 102 11 1,l 103 102,h 104 103,b 105 .lss 101 104],U 105 (.exit 4)],.block 5 (Q [R [f 108 11 1,l 109 108,m 110 5,A 111 8 109 110,L 112 8 111,C 113 59 [112],u 114 113],J 114 (Q [R [z 2 false],.ret])]),R [m 106 5,B 107 .add 106 1,m 5 107]])],Q [R [j 6 0],F 6 (Q [Q [R [m 115 6,f 116 12 1,l 117 116,h 118 117,b 119 .lss 115 118],U 119 (.exit 6)],.block 7 (Q [R [f 122 12 1,l 123 122,m 124 6,A 125 2 123 124,L 126 2 125,C 127 60 [126],u 128 127],J 128 (Q [R [z 2 false],.ret])]),R [m 120 6,B 121 .add 120 1,m 6 121]])],Q [R [j 7 0],F 8 (Q [Q [R [m 129 7,f 130 14 1,l 131 130,h 132 131,b 133 .lss 129 132],U 133 (.exit 8)],.block 9 (Q [R [f 136 14 1,l 137 136,m 138 7,A 139 15 137 138,L 140 15 139,N 8 y7,s 15 8 140],R [f 141 0 8,l 142 141,E 143 48 [.t 142,i 0,i 2],u 144 143,m 145 144,H 145 (f 146 1 8),H 145 (l 147 146),H 145 (C 148 61 [147]),H 145 (u 149 148),o 150 145 149,m 151 150,H 151 (f 152 13 8),H 151 (l 153 152),H 151 (f 154 15 1),H 151 (l 155 154),H 151 (h 156 155),H 151 (E 157 48 [.t 153,i 0,.t 156]),H 151 (u 158 157),o 159 151 158,m 160 159,H 160 (f 161 11 8),H 160 (l 162 161),H 160 (E 163 62 [.t 162,i 6,i 3]),H 160 (u 164 163),o 165 160 164,m 166 165,H 166 (f 167 12 8),H 166 (l 168 167),H 166 (E 169 62 [.t 168,i 4,i 3]),H 166 (u 170 169),o 171 166 170],J 171 (Q [R [z 2 false],.ret])]),R [m 134 7,B 135 .add 134 1,m 7 135]])],R [z 2 true],.ret],[.t 2]⟩).b
theorem T6 : EE.fns 19 = some xD := by kernel_rfl
def wL : CF := ({ b := _ } : V (α := CF) ⟨30,Q [R [M 2 0,j 4 0],R [f 5 0 2,l 6 5,m 7 1,C 8 28 [6,7],m 1 8],Q [R [m 9 1,B 10 .lss 9 0],J 10 (Q [R [j 4 (-1)],.ret])],R [f 11 1 2,l 12 11,m 13 1,C 14 28 [12,13],m 1 14],Q [R [m 15 1,B 16 .lss 15 0],J 16 (Q [R [j 4 (-1)],.ret])],R [f 17 2 2,l 18 17,m 19 1,C 20 63 [18,19],m 1 20],Q [R [m 21 1,B 22 .lss 21 0],J 22 (Q [R [j 4 (-1)],.ret])],R [f 23 3 2,l 24 23,m 25 1,C 26 63 [24,25],m 1 26],Q [R [m 27 1,B 28 .lss 27 0],J 28 (Q [R [j 4 (-1)],.ret])],R [m 29 1,m 4 29],.ret],[.t 4]⟩).b
theorem T4 : EE.fns 20 = some wL := by kernel_rfl
def c21 : CF := ({ b := _ } : V (α := CF) ⟨28,Q [R [j 4 0],R [m 6 1,m 7 0,h 8 7,b 9 .sub 6 8,m 1 9],Q [R [m 10 1,B 11 .lss 10 0],J 11 (Q [R [j 4 (-1)],.ret])],Q [R [j 5 0],F 0 (Q [Q [R [m 12 5,m 13 0,h 14 13,b 15 .lss 12 14],U 15 (.exit 0)],.block 1 (Q [R [m 18 1,m 19 0,m 20 5,A 21 1 19 20,l 22 21,k 23 (.lenT (.t 22)),b 24 .sub 18 23,m 1 24],R [m 25 1,B 26 .lss 25 0],J 26 (Q [R [j 4 (-1)],.ret])]),R [m 16 5,B 17 .add 16 1,m 5 17]])],R [m 27 1,m 4 27],.ret],[.t 4]⟩).b
theorem fD : EE.fns 21 = some c21 := by kernel_rfl
def yO : CF := ({ b := _ } : V (α := CF) ⟨18,Q [R [M 2 0,j 4 0],R [f 5 0 2,l 6 5,m 7 1,C 8 21 [6,7],m 1 8],Q [R [m 9 1,B 10 .lss 9 0],J 10 (Q [R [j 4 (-1)],.ret])],R [f 11 1 2,l 12 11,m 13 1,C 14 28 [12,13],m 1 14],Q [R [m 15 1,B 16 .lss 15 0],J 16 (Q [R [j 4 (-1)],.ret])],R [m 17 1,m 4 17],.ret],[.t 4]⟩).b
theorem Kg : EE.fns 22 = some yO := by kernel_rfl
def rT : CF := ({ b := _ } : V (α := CF) ⟨12,Q [R [j 4 0],R [m 5 1,m 6 0,h 7 6,b 8 .sub 5 7,m 1 8],Q [R [m 9 1,B 10 .lss 9 0],J 10 (Q [R [j 4 (-1)],.ret])],R [m 11 1,m 4 11],.ret],[.t 4]⟩).b
theorem k23 : EE.fns 23 = some rT := by kernel_rfl
def c24 : CF := ({ b := _ } : V (α := CF) ⟨27,Q [R [j 4 0],R [m 6 1,m 7 0,h 8 7,b 9 .sub 6 8,m 1 9],Q [R [m 10 1,B 11 .lss 10 0],J 11 (Q [R [j 4 (-1)],.ret])],Q [R [j 5 0],F 0 (Q [Q [R [m 12 5,m 13 0,h 14 13,b 15 .lss 12 14],U 15 (.exit 0)],.block 1 (Q [R [m 18 0,m 19 5,A 20 8 18 19,L 21 8 20,m 22 1,C 23 64 [21,22],m 1 23],R [m 24 1,B 25 .lss 24 0],J 25 (Q [R [j 4 (-1)],.ret])]),R [m 16 5,B 17 .add 16 1,m 5 17]])],R [m 26 1,m 4 26],.ret],[.t 4]⟩).b
theorem k24 : EE.fns 24 = some c24 := by kernel_rfl
def tT : CF := ({ b := _ } : V (α := CF) ⟨27,Q [R [j 4 0],R [m 6 1,m 7 0,h 8 7,b 9 .sub 6 8,m 1 9],Q [R [m 10 1,B 11 .lss 10 0],J 11 (Q [R [j 4 (-1)],.ret])],Q [R [j 5 0],F 0 (Q [Q [R [m 12 5,m 13 0,h 14 13,b 15 .lss 12 14],U 15 (.exit 0)],.block 1 (Q [R [m 18 0,m 19 5,A 20 2 18 19,L 21 2 20,m 22 1,C 23 65 [21,22],m 1 23],R [m 24 1,B 25 .lss 24 0],J 25 (Q [R [j 4 (-1)],.ret])]),R [m 16 5,B 17 .add 16 1,m 5 17]])],R [m 26 1,m 4 26],.ret],[.t 4]⟩).b
theorem k25 : EE.fns 25 = some tT := by kernel_rfl
def c26 : CF := ({ b := _ } : V (α := CF) ⟨12,Q [R [j 4 0],R [m 5 1,m 6 0,h 7 6,b 8 .sub 5 7,m 1 8],Q [R [m 9 1,B 10 .lss 9 0],J 10 (Q [R [j 4 (-1)],.ret])],R [m 11 1,m 4 11],.ret],[.t 4]⟩).b
theorem k26 : EE.fns 26 = some c26 := by kernel_rfl
def zU : CF := ({ b := _ } : V (α := CF) ⟨27,Q [R [j 4 0],R [m 6 1,m 7 0,h 8 7,b 9 .sub 6 8,m 1 9],Q [R [m 10 1,B 11 .lss 10 0],J 11 (Q [R [j 4 (-1)],.ret])],Q [R [j 5 0],F 0 (Q [Q [R [m 12 5,m 13 0,h 14 13,b 15 .lss 12 14],U 15 (.exit 0)],.block 1 (Q [R [m 18 0,m 19 5,A 20 15 18 19,L 21 15 20,m 22 1,C 23 66 [21,22],m 1 23],R [m 24 1,B 25 .lss 24 0],J 25 (Q [R [j 4 (-1)],.ret])]),R [m 16 5,B 17 .add 16 1,m 5 17]])],R [m 26 1,m 4 26],.ret],[.t 4]⟩).b
theorem k27 : EE.fns 27 = some zU := by kernel_rfl
def c28 : CF := ({ b := _ } : V (α := CF) ⟨12,Q [R [j 4 0],R [m 5 1,m 6 0,h 7 6,b 8 .sub 5 7,m 1 8],Q [R [m 9 1,B 10 .lss 9 0],J 10 (Q [R [j 4 (-1)],.ret])],R [m 11 1,m 4 11],.ret],[.t 4]⟩).b
theorem qO : EE.fns 28 = some c28 := by kernel_rfl
def c29 : CF := ({ b := _ } : V (α := CF) ⟨24,Q [R [M 1 0,N 2 y14],R [N 3 y14],R [f 4 0 1,l 5 4,C 6 37 [5],f 7 0 3,s 1 7 6],R [f 8 1 1,l 9 8,C 10 37 [9],f 11 1 3,s 1 11 10],R [f 12 2 1,l 13 12,C 14 67 [13],f 15 2 3,s 1 15 14],R [f 16 3 1,l 17 16,C 18 67 [17],f 19 3 3,s 1 19 18],R [f 20 4 1,l 21 20,f 22 4 3,s 1 22 21],R [L 23 5 3,s 5 2 23],.ret],[.cell 2 5 true]⟩).b
theorem rG : EE.fns 29 = some c29 := by kernel_rfl
def c30 : CF := ({ b := _ } : V (α := CF) ⟨22,Q [R [c 2 (.slice .none 0 0)],R [m 5 0,h 6 5,k 7 (.makeS 1 16 y4 (.t 6) (.t 6)),m 3 7],Q [R [j 4 0],F 0 (Q [Q [R [m 8 4,m 9 0,h 10 9,b 11 .lss 8 10],U 11 (.exit 0)],.block 1 (R [m 14 3,m 15 4,m 16 0,m 17 4,A 18 1 16 17,l 19 18,A 20 1 14 15,s 1 20 19]),R [m 12 4,B 13 .add 12 1,m 4 13]])],R [m 21 3,m 2 21],.ret],[.t 2]⟩).b
theorem rD : EE.fns 30 = some c30 := by kernel_rfl
def c32 : CF := ({ b := _ } : V (α := CF) ⟨23,Q [R [c 2 (.slice .none 0 0)],R [m 5 0,h 6 5,k 7 (.makeS 4 32 y12 (.t 6) (.t 6)),m 3 7],Q [R [j 4 0],F 0 (Q [Q [R [m 8 4,m 9 0,h 10 9,b 11 .lss 8 10],U 11 (.exit 0)],.block 1 (R [m 14 3,m 15 4,m 16 0,m 17 4,A 18 4 16 17,L 19 4 18,C 20 68 [19],A 21 4 14 15,s 4 21 20]),R [m 12 4,B 13 .add 12 1,m 4 13]])],R [m 22 3,m 2 22],.ret],[.t 2]⟩).b
theorem bH : EE.fns 32 = some c32 := by kernel_rfl
def c33 : CF := ({ b := _ } : V (α := CF) ⟨23,Q [R [c 2 (.slice .none 0 0)],R [m 5 0,h 6 5,k 7 (.makeS 8 72 y9 (.t 6) (.t 6)),m 3 7],Q [R [j 4 0],F 0 (Q [Q [R [m 8 4,m 9 0,h 10 9,b 11 .lss 8 10],U 11 (.exit 0)],.block 1 (R [m 14 3,m 15 4,m 16 0,m 17 4,A 18 8 16 17,L 19 8 18,C 20 69 [19],A 21 8 14 15,s 8 21 20]),R [m 12 4,B 13 .add 12 1,m 4 13]])],R [m 22 3,m 2 22],.ret],[.t 2]⟩).b
theorem R3 : EE.fns 33 = some c33 := by kernel_rfl
def c37 : CF := ({ b := _ } : V (α := CF) ⟨22,Q [R [c 2 (.slice .none 0 0)],R [m 5 0,h 6 5,k 7 (.makeS 1 8 y0 (.t 6) (.t 6)),m 3 7],Q [R [j 4 0],F 0 (Q [Q [R [m 8 4,m 9 0,h 10 9,b 11 .lss 8 10],U 11 (.exit 0)],.block 1 (R [m 14 3,m 15 4,m 16 0,m 17 4,A 18 1 16 17,l 19 18,A 20 1 14 15,s 1 20 19]),R [m 12 4,B 13 .add 12 1,m 4 13]])],R [m 21 3,m 2 21],.ret],[.t 2]⟩).b
theorem rJ : EE.fns 37 = some c37 := by kernel_rfl
def sK : CF := ({ b := _ } : V (α := CF) ⟨121,Q [R [M 1 0,z 2 false],Q [R [f 11 10 1,l 12 11,h 13 12,j 14 0],F 0 (Q [R [b 15 .lss 14 13],U 15 (.exit 0),.block 1 (Q [R [A 16 4 12 14,L 17 4 16,N 4 y12,s 4 4 17],R [L 18 4 4,C 19 73 [18],u 20 19],J 20 (Q [R [z 2 false],.ret])]),R [B 21 .add 14 1,m 14 21]])],Q [R [f 22 11 1,l 23 22,h 24 23,j 25 0],F 2 (Q [R [b 26 .lss 25 24],U 26 (.exit 2),.block 3 (Q [R [A 27 8 23 25,L 28 8 27,N 6 y9,s 8 6 28],R [L 29 8 6,C 30 74 [29],u 31 30],J 31 (Q [R [z 2 false],.ret])]),R [B 32 .add 25 1,m 25 32]])],Q [R [f 33 12 1,l 34 33,h 35 34,j 36 0],F 4 (Q [R [b 37 .lss 36 35],U 37 (.exit 4),.block 5 (Q [R [A 38 2 34 36,L 39 2 38,N 8 y8,s 2 8 39],R [L 40 2 8,C 41 75 [40],u 42 41],J 42 (Q [R [z 2 false],.ret])]),R [B 43 .add 36 1,m 36 43]])],Q [R [f 44 14 1,l 45 44,h 46 45,j 47 0],F 6 (Q [R [b 48 .lss 47 46],U 48 (.exit 6),.block 7 (Q [R [A 49 15 45 47,L 50 15 49,N 10 y7,s 15 10 50],R [L 51 15 10,f 52 15 1,l 53 52,h 54 53,C 55 76 [51,54],u 56 55],J 56 (Q [R [z 2 false],.ret])]),R [B 57 .add 47 1,m 47 57]])],Q [R [f 58 7 1,l 59 58,E 60 77 [.t 59,.f 78],m 61 60,H 61 (f 62 7 1),H 61 (l 63 62),H 61 (h 64 63),H 61 (B 65 .gtr 64 50),o 66 61 65],J 66 (Q [R [z 2 false],.ret])],R [f 67 0 1,L 68 5 67,C 69 80 [68],m 70 69,G 70 (f 71 5 1),G 70 (l 72 71),G 70 (C 73 81 [72]),a 74 70 73,m 75 74,G 75 (f 76 6 1),G 75 (l 77 76),G 75 (E 78 82 [.t 77,i 101,i 1000000]),a 79 75 78,m 80 79,G 80 (f 81 8 1),G 80 (L 82 2 81),G 80 (C 83 83 [82]),a 84 80 83,m 85 84,G 85 (f 86 10 1),G 85 (l 87 86),G 85 (h 88 87),G 85 (B 89 .eql 88 6),a 90 85 89,m 91 90,G 91 (f 92 11 1),G 91 (l 93 92),G 91 (h 94 93),G 91 (B 95 .leq 94 30),a 96 91 95,m 97 96,G 97 (f 98 12 1),G 97 (l 99 98),G 97 (h 100 99),G 97 (B 101 .eql 100 3),a 102 97 101,m 103 102,G 103 (f 104 13 1),G 103 (l 105 104),G 103 (h 106 105),G 103 (B 107 .leq 106 40),a 108 103 107,m 109 108,G 109 (f 110 14 1),G 109 (l 111 110),G 109 (h 112 111),G 109 (B 113 .leq 112 40),a 114 109 113,m 115 114,G 115 (f 116 15 1),G 115 (l 117 116),G 115 (h 118 117),G 115 (B 119 .leq 118 40),a 120 115 119,m 2 120],.ret],[.t 2]⟩).b
theorem qQ : EE.fns 38 = some sK := by kernel_rfl
def c39 : CF := ({ b := _ } : V (α := CF) ⟨34,Q [R [M 2 0,M 3 1,z 4 false],Q [R [f 5 0 2,l 6 5,f 7 0 3,l 8 7,C 9 47 [6,8],u 10 9],J 10 (Q [R [z 4 false],.ret])],Q [R [f 11 1 2,l 12 11,f 13 1 3,l 14 13,C 15 47 [12,14],u 16 15],J 16 (Q [R [z 4 false],.ret])],Q [R [f 17 2 2,l 18 17,f 19 2 3,l 20 19,C 21 84 [18,20],u 22 21],J 22 (Q [R [z 4 false],.ret])],Q [R [f 23 3 2,l 24 23,f 25 3 3,l 26 25,C 27 84 [24,26],u 28 27],J 28 (Q [R [z 4 false],.ret])],Q [R [f 29 4 2,l 30 29,f 31 4 3,l 32 31,b 33 .neq 30 32],J 33 (Q [R [z 4 false],.ret])],R [z 4 true],.ret],[.t 4]⟩).b
theorem qX : EE.fns 39 = some c39 := by kernel_rfl
def nU : CF := ({ b := _ } : V (α := CF) ⟨15,Q [R [z 6 false],R [m 7 0,m 8 1,b 9 .geq 7 8,m 10 9,G 10 (m 11 0),G 10 (m 12 2),G 10 (b 13 .leq 11 12),a 14 10 13,m 6 14],.ret],[.t 6]⟩).b
theorem k48 : EE.fns 48 = some nU := by kernel_rfl
def xO : CF := ({ b := _ } : V (α := CF) ⟨31,Q [R [c 2 (.string ⟨#[]⟩)],Q [R [m 6 0,B 7 .eql 6 0],J 7 (Q [R [c 2 (.string ⟨#[48]⟩)],.ret])],R [c 3 (.string ⟨#[]⟩)],R [m 8 0,B 9 .lss 8 0,m 4 9],F 0 (Q [Q [R [m 10 0,B 11 .neq 10 0],U 11 (.exit 0)],.block 1 (Q [R [m 12 0,B 13 .rem 12 10,m 5 13],Q [R [m 14 5,B 15 .lss 14 0],J 15 (R [m 16 5,k 17 (.un .neg (.t 16)),m 5 17])],R [m 18 5,k 19 (.bin .add (i 48) (.t 18)),k 20 (.toInt .u8 (.t 19)),k 21 (.mkO 1 1 y10 [(0,.t 20)]),k 22 (.b2s (.t 21)),m 23 3,b 24 .add 22 23,m 3 24],R [m 25 0,B 26 .quo 25 10,m 0 26]])]),Q [R [m 27 4],J 27 (Q [R [m 28 3,k 29 (.bin .add (.c (.string ⟨#[45]⟩)) (.t 28)),m 2 29],.ret])],R [m 30 3,m 2 30],.ret],[.t 2]⟩).b
theorem k49 : EE.fns 49 = some xO := by kernel_rfl
def sA : CF := ({ b := _ } : V (α := CF) ⟨21,Q [R [c 4 (.string ⟨#[]⟩)],Q [R [m 7 1,h 8 7,j 9 0],F 0 (Q [R [b 10 .lss 9 8],U 10 (.exit 0),.block 1 (Q [R [A 11 1 7 9,l 12 11,m 6 12],R [m 13 0,k 14 (.bin .add (.t 13) (.c (.string ⟨#[32]⟩))),m 15 6,C 16 90 [15],b 17 .add 14 16,m 0 17]]),R [B 18 .add 9 1,m 9 18]])],R [m 19 0,k 20 (.bin .add (.t 19) (.c (.string ⟨#[10]⟩))),m 4 20],.ret],[.t 4]⟩).b
theorem k50 : EE.fns 50 = some sA := by kernel_rfl
def wS : CF := ({ b := _ } : V (α := CF) ⟨11,Q [R [c 2 (.string ⟨#[]⟩)],Q [R [m 3 0,E 4 82 [.t 3,i 1,i 4],u 5 4],J 5 (Q [R [c 2 (.string ⟨#[101,118,101,110,116]⟩)],.ret])],R [k 6 (.mkO 4 1 y4 [(0,.c (.string ⟨#[108,111,103,105,110]⟩)),(1,.c (.string ⟨#[105,115,115,117,101]⟩)),(2,.c (.string ⟨#[114,101,102,101,114]⟩)),(3,.c (.string ⟨#[100,101,108,101,103,97,116,101]⟩))]),m 7 0,B 8 .sub 7 1,A 9 1 6 8,l 10 9,m 2 10],.ret],[.t 2]⟩).b
def tL : CF := ({ b := _ } : V (α := CF) ⟨38,Q [R [M 1 0,z 2 false],R [f 3 0 1,l 4 3,h 5 4,B 6 .eql 5 3,m 7 6,G 7 (f 8 0 1),G 7 (l 9 8),G 7 (E 10 62 [.t 9,i 3,i 3]),a 11 7 10,m 12 11,G 12 (f 13 1 1),G 12 (l 14 13),G 12 (h 15 14),G 12 (B 16 .eql 15 3),a 17 12 16,m 18 17,G 18 (f 19 1 1),G 18 (l 20 19),G 18 (E 21 62 [.t 20,i 3,i 3]),a 22 18 21,m 23 22,G 23 (f 24 2 1),G 23 (l 25 24),G 23 (E 26 97 [.t 25,i 3,.c (.bool true)]),a 27 23 26,m 28 27,G 28 (f 29 3 1),G 28 (l 30 29),G 28 (E 31 97 [.t 30,i 3,.c (.bool false)]),a 32 28 31,m 33 32,G 33 (f 34 4 1),G 33 (l 35 34),G 33 (E 36 48 [.t 35,i 0,i 20]),a 37 33 36,m 2 37],.ret],[.t 2]⟩).b
theorem k55 : EE.fns 55 = some tL := by kernel_rfl
def c56 : CF := ({ b := _ } : V (α := CF) ⟨73,Q [R [M 1 0,z 2 false],Q [R [f 5 0 1,l 6 5,h 7 6,B 8 .gtr 7 60,m 9 8,H 9 (f 10 1 1),H 9 (l 11 10),H 9 (h 12 11),H 9 (B 13 .gtr 12 40),o 14 9 13],J 14 (Q [R [z 2 false],.ret])],Q [R [j 3 0],F 0 (Q [Q [R [m 15 3,f 16 0 1,l 17 16,h 18 17,b 19 .lss 15 18],U 19 (.exit 0)],.block 1 (Q [D [f 22 0 1,p [0] (l 23 22),m 24 3,p [1,0,2] (A 25 1 23 24),p [3,1,0,2] (l 26 25),p [4,3,1,0,2] (C 27 57 [26]),p [5,4,3,1,0,2] (u 28 27),p [6,5,4,3,1,0,2] (m 29 28),p [7,6,5,4,3,1,0,2] (H 29 (f 30 0 1)),p [8,7,6,5,4,3,1,0,2] (H 29 (l 31 30)),p [7,6,5,4,3,1,0,2] (H 29 (m 32 3)),p [9,8,7,6,5,4,3,1,0,2,10] (H 29 (k 33 (.slc 1 (.t 31) .none (.some (.t 32))))),p [7,6,5,4,3,1,0,2] (H 29 (f 34 0 1)),p [12,7,6,5,4,3,1,0,2] (H 29 (l 35 34)),p [7,6,5,4,3,1,0,2] (H 29 (m 36 3)),p [13,12,7,6,5,4,3,1,0,2,14] (H 29 (A 37 1 35 36)),p [15,13,12,7,6,5,4,3,1,0,2,14] (H 29 (l 38 37)),p [11,9,8,7,6,5,4,3,1,0,2,10,16,15,13,12,14] (H 29 (C 39 98 [33,38])),p [7,6,5,4,3,1,0,2,17,11,9,8,10,16,15,13,12,14] (o 40 29 39)],J 40 (Q [R [z 2 false],.ret])]),R [m 20 3,B 21 .add 20 1,m 3 21]])],Q [R [j 4 0],F 2 (Q [Q [R [m 41 4,f 42 1 1,l 43 42,h 44 43,b 45 .lss 41 44],U 45 (.exit 2)],.block 3 (Q [D [f 48 1 1,p [0] (l 49 48),m 50 4,p [1,0,2] (A 51 1 49 50),p [3,1,0,2] (l 52 51),p [4,3,1,0,2] (E 53 48 [.t 52,i 1,i 1000000]),p [5,4,3,1,0,2] (u 54 53),p [6,5,4,3,1,0,2] (m 55 54),p [7,6,5,4,3,1,0,2] (H 55 (m 56 4)),p [8,7,6,5,4,3,1,0,2] (H 55 (B 57 .gtr 56 0)),p [9,8,7,6,5,4,3,1,0,2] (H 55 (m 58 57)),p [10,9,8,7,6,5,4,3,1,0,2] (G 58 (f 59 1 1)),p [11,10,9,8,7,6,5,4,3,1,0,2] (G 58 (l 60 59)),p [10,9,8,7,6,5,4,3,1,0,2] (G 58 (m 61 4)),p [13,10,9,8,7,6,5,4,3,1,0,2] (G 58 (B 62 .sub 61 1)),p [12,11,10,9,8,7,6,5,4,3,1,0,2,14,13] (G 58 (A 63 1 60 62)),p [15,12,11,10,9,8,7,6,5,4,3,1,0,2,14,13] (G 58 (l 64 63)),p [10,9,8,7,6,5,4,3,1,0,2] (G 58 (f 65 1 1)),p [17,10,9,8,7,6,5,4,3,1,0,2] (G 58 (l 66 65)),p [10,9,8,7,6,5,4,3,1,0,2] (G 58 (m 67 4)),p [18,17,10,9,8,7,6,5,4,3,1,0,2,19] (G 58 (A 68 1 66 67)),p [20,18,17,10,9,8,7,6,5,4,3,1,0,2,19] (G 58 (l 69 68)),p [16,15,12,11,10,9,8,7,6,5,4,3,1,0,2,14,13,21,20,18,17,19] (G 58 (b 70 .geq 64 69)),p [10,9,8,7,6,5,4,3,1,0,2,22,16,15,12,11,14,13,21,20,18,17,19] (H 55 (a 71 58 70)),p [7,6,5,4,3,1,0,2,23,10,9,8,22,16,15,12,11,14,13,21,20,18,17,19] (o 72 55 71)],J 72 (Q [R [z 2 false],.ret])]),R [m 46 4,B 47 .add 46 1,m 4 47]])],R [z 2 true],.ret],[.t 2]⟩).b
theorem k56 : EE.fns 56 = some c56 := by kernel_rfl
def xF : CF := ({ b := _ } : V (α := CF) ⟨22,Q [R [z 2 false],R [m 6 0,E 7 99 [.t 6,i 0,i 8],m 5 7,e 8 5 0,e 9 5 1,m 3 8,m 4 9],R [m 10 3,B 11 .gtr 10 0,m 12 11,G 12 (m 13 3),G 12 (m 14 0),G 12 (k 15 (.lenT (.t 14))),G 12 (b 16 .eql 13 15),a 17 12 16,m 18 17,G 18 (m 19 3),G 18 (B 20 .leq 19 900),a 21 18 20,m 2 21],.ret],[.t 2]⟩).b
theorem k57 : EE.fns 57 = some xF := by kernel_rfl
def yT : CF := ({ b := _ } : V (α := CF) ⟨22,Q [R [M 1 0,z 2 false],Q [R [f 3 0 1,l 4 3,u 5 4],J 5 (Q [R [L 6 4 1,k 7 (.build y12 []),k 8 (.aeq false [1,0,0,0] (.t 6) (.t 7)),m 2 8],.ret])],R [f 9 1 1,l 10 9,E 11 48 [.t 10,i 0,i 1000000],m 12 11,G 12 (f 13 2 1),G 12 (l 14 13),G 12 (E 15 48 [.t 14,i 1,i 1000000]),a 16 12 15,m 17 16,G 17 (f 18 3 1),G 17 (l 19 18),G 17 (C 20 61 [19]),a 21 17 20,m 2 21],.ret],[.t 2]⟩).b
theorem k58 : EE.fns 58 = some yT := by kernel_rfl
def c59 : CF := ({ b := _ } : V (α := CF) ⟨31,Q [R [M 1 0,z 2 false],R [f 3 0 1,l 4 3,C 5 61 [4],m 6 5,G 6 (f 7 1 1),G 6 (l 8 7),G 6 (C 9 61 [8]),a 10 6 9,m 11 10,G 11 (f 12 2 1),G 11 (l 13 12),G 11 (C 14 100 [13]),a 15 11 14,m 16 15,G 16 (f 17 3 1),G 16 (l 18 17),G 16 (E 19 48 [.t 18,i 1,i 1000000]),a 20 16 19,m 21 20,G 21 (f 22 4 1),G 21 (L 23 3 22),G 21 (C 24 101 [23]),a 25 21 24,m 26 25,G 26 (f 27 7 1),G 26 (l 28 27),G 26 (C 29 57 [28]),a 30 26 29,m 2 30],.ret],[.t 2]⟩).b
theorem k59 : EE.fns 59 = some c59 := by kernel_rfl
def zC : CF := ({ b := _ } : V (α := CF) ⟨40,Q [R [M 1 0,z 2 false],Q [R [f 4 0 1,l 5 4,E 6 48 [.t 5,i (-1),i 200000],u 7 6,m 8 7,H 8 (f 9 1 1),H 8 (l 10 9),H 8 (h 11 10),H 8 (B 12 .gtr 11 6),o 13 8 12],J 13 (Q [R [z 2 false],.ret])],Q [R [j 3 0],F 0 (Q [Q [R [m 14 3,f 15 1 1,l 16 15,h 17 16,b 18 .lss 14 17],U 18 (.exit 0)],.block 1 (Q [D [f 21 1 1,p [0] (l 22 21),m 23 3,p [1,0,2] (A 24 3 22 23),p [3,1,0,2] (L 25 3 24),p [4,3,1,0,2] (C 26 102 [25]),p [5,4,3,1,0,2] (u 27 26),p [6,5,4,3,1,0,2] (m 28 27),p [7,6,5,4,3,1,0,2] (H 28 (f 29 1 1)),p [8,7,6,5,4,3,1,0,2] (H 28 (l 30 29)),p [7,6,5,4,3,1,0,2] (H 28 (m 31 3)),p [9,8,7,6,5,4,3,1,0,2,10] (H 28 (k 32 (.slc 3 (.t 30) .none (.some (.t 31))))),p [7,6,5,4,3,1,0,2] (H 28 (f 33 1 1)),p [12,7,6,5,4,3,1,0,2] (H 28 (l 34 33)),p [7,6,5,4,3,1,0,2] (H 28 (m 35 3)),p [13,12,7,6,5,4,3,1,0,2,14] (H 28 (A 36 3 34 35)),p [15,13,12,7,6,5,4,3,1,0,2,14] (H 28 (L 37 3 36)),p [11,9,8,7,6,5,4,3,1,0,2,10,16,15,13,12,14] (H 28 (C 38 103 [32,37])),p [7,6,5,4,3,1,0,2,17,11,9,8,10,16,15,13,12,14] (o 39 28 38)],J 39 (Q [R [z 2 false],.ret])]),R [m 19 3,B 20 .add 19 1,m 3 20]])],R [z 2 true],.ret],[.t 2]⟩).b
theorem k60 : EE.fns 60 = some zC := by kernel_rfl
def uR : CF := ({ b := _ } : V (α := CF) ⟨9,Q [R [z 2 false],R [m 3 0,B 4 .geq 3 0,m 5 4,G 5 (m 6 0),G 5 (B 7 .lss 6 6),a 8 5 7,m 2 8],.ret],[.t 2]⟩).b
theorem k61 : EE.fns 61 = some uR := by kernel_rfl
def c62 : CF := ({ b := _ } : V (α := CF) ⟨31,Q [R [z 6 false],Q [R [m 8 0,h 9 8,m 10 1,b 11 .gtr 9 10],J 11 (Q [R [z 6 false],.ret])],Q [R [j 7 0],F 0 (Q [Q [R [m 12 7,m 13 0,h 14 13,b 15 .lss 12 14],U 15 (.exit 0)],.block 1 (Q [R [m 18 0,m 19 7,A 20 1 18 19,l 21 20,B 22 .lss 21 0,m 23 22,H 23 (m 24 0),H 23 (m 25 7),H 23 (A 26 1 24 25),H 23 (l 27 26),H 23 (m 28 2),H 23 (b 29 .geq 27 28),o 30 23 29],J 30 (Q [R [z 6 false],.ret])]),R [m 16 7,B 17 .add 16 1,m 7 17]])],R [z 6 true],.ret],[.t 6]⟩).b
theorem k62 : EE.fns 62 = some c62 := by kernel_rfl
def c63 : CF := ({ b := _ } : V (α := CF) ⟨12,Q [R [j 4 0],R [m 5 1,m 6 0,h 7 6,b 8 .sub 5 7,m 1 8],Q [R [m 9 1,B 10 .lss 9 0],J 10 (Q [R [j 4 (-1)],.ret])],R [m 11 1,m 4 11],.ret],[.t 4]⟩).b
theorem k63 : EE.fns 63 = some c63 := by kernel_rfl
def xQ : CF := ({ b := _ } : V (α := CF) ⟨13,Q [R [M 2 0,j 4 0],R [m 5 1,f 6 7 2,l 7 6,k 8 (.lenT (.t 7)),b 9 .sub 5 8,m 1 9],Q [R [m 10 1,B 11 .lss 10 0],J 11 (Q [R [j 4 (-1)],.ret])],R [m 12 1,m 4 12],.ret],[.t 4]⟩).b
theorem k64 : EE.fns 64 = some xQ := by kernel_rfl
def wQ : CF := ({ b := _ } : V (α := CF) ⟨12,Q [R [M 2 0,j 4 0],R [f 5 1 2,l 6 5,m 7 1,C 8 104 [6,7],m 1 8],Q [R [m 9 1,B 10 .lss 9 0],J 10 (Q [R [j 4 (-1)],.ret])],R [m 11 1,m 4 11],.ret],[.t 4]⟩).b
theorem k65 : EE.fns 65 = some wQ := by kernel_rfl
def vM : CF := ({ b := _ } : V (α := CF) ⟨25,Q [R [M 2 0,j 4 0],R [f 5 11 2,l 6 5,m 7 1,C 8 28 [6,7],m 1 8],Q [R [m 9 1,B 10 .lss 9 0],J 10 (Q [R [j 4 (-1)],.ret])],R [f 11 12 2,l 12 11,m 13 1,C 14 28 [12,13],m 1 14],Q [R [m 15 1,B 16 .lss 15 0],J 16 (Q [R [j 4 (-1)],.ret])],R [m 17 1,f 18 14 2,l 19 18,k 20 (.lenT (.t 19)),b 21 .sub 17 20,m 1 21],Q [R [m 22 1,B 23 .lss 22 0],J 23 (Q [R [j 4 (-1)],.ret])],R [m 24 1,m 4 24],.ret],[.t 4]⟩).b
theorem k66 : EE.fns 66 = some vM := by kernel_rfl
def c73 : CF := ({ b := _ } : V (α := CF) ⟨22,Q [R [M 1 0,z 2 false],Q [R [f 3 0 1,l 4 3,u 5 4],J 5 (Q [R [L 6 4 1,k 7 (.build y12 []),k 8 (.aeq false [1,0,0,0] (.t 6) (.t 7)),m 2 8],.ret])],R [f 9 1 1,l 10 9,C 11 109 [10],m 12 11,G 12 (f 13 2 1),G 12 (l 14 13),G 12 (C 15 110 [14]),a 16 12 15,m 17 16,G 17 (f 18 3 1),G 17 (l 19 18),G 17 (C 20 111 [19]),a 21 17 20,m 2 21],.ret],[.t 2]⟩).b
theorem k73 : EE.fns 73 = some c73 := by kernel_rfl
def c74 : CF := ({ b := _ } : V (α := CF) ⟨31,Q [R [M 1 0,z 2 false],R [f 3 0 1,l 4 3,C 5 111 [4],m 6 5,G 6 (f 7 1 1),G 6 (l 8 7),G 6 (C 9 111 [8]),a 10 6 9,m 11 10,G 11 (f 12 2 1),G 11 (l 13 12),G 11 (C 14 112 [13]),a 15 11 14,m 16 15,G 16 (f 17 3 1),G 16 (l 18 17),G 16 (C 19 110 [18]),a 20 16 19,m 21 20,G 21 (f 22 4 1),G 21 (L 23 3 22),G 21 (C 24 113 [23]),a 25 21 24,m 26 25,G 26 (f 27 7 1),G 26 (l 28 27),G 26 (C 29 79 [28]),a 30 26 29,m 2 30],.ret],[.t 2]⟩).b
theorem k74 : EE.fns 74 = some c74 := by kernel_rfl
def c75 : CF := ({ b := _ } : V (α := CF) ⟨34,Q [R [M 1 0,z 2 false],Q [R [f 5 1 1,l 6 5,h 7 6,j 8 0],F 0 (Q [R [b 9 .lss 8 7],U 9 (.exit 0),.block 1 (Q [R [m 10 8,A 11 3 6 8,L 12 3 11,N 4 y1,m 3 10,s 3 4 12],D [L 13 3 4,p [0] (C 14 114 [13]),p [1,0] (u 15 14),p [2,1,0] (m 16 15),p [3,2,1,0] (H 16 (f 17 1 1)),p [4,3,2,1,0] (H 16 (l 18 17)),p [3,2,1,0] (H 16 (m 19 3)),p [5,4,3,2,1,0,6] (H 16 (k 20 (.slc 3 (.t 18) .none (.some (.t 19))))),p [3,2,1,0] (H 16 (L 21 3 4)),p [7,5,4,3,2,1,0,6,8] (H 16 (C 22 115 [20,21])),p [3,2,1,0,9,7,5,4,6,8] (o 23 16 22)],J 23 (Q [R [z 2 false],.ret])]),R [B 24 .add 8 1,m 8 24]])],R [f 25 0 1,l 26 25,E 27 82 [.t 26,i (-1),i 200000],m 28 27,G 28 (f 29 1 1),G 28 (l 30 29),G 28 (h 31 30),G 28 (B 32 .leq 31 6),a 33 28 32,m 2 33],.ret],[.t 2]⟩).b
theorem k75 : EE.fns 75 = some c75 := by kernel_rfl
def uP : CF := ({ b := _ } : V (α := CF) ⟨29,Q [R [M 2 0,z 4 false],R [f 5 0 2,l 6 5,C 7 116 [6],m 8 7,G 8 (f 9 1 2),G 8 (l 10 9),G 8 (C 11 111 [10]),a 12 8 11,m 13 12,G 13 (f 14 13 2),G 13 (l 15 14),G 13 (m 16 1),G 13 (E 17 82 [.t 15,i 0,.t 16]),a 18 13 17,m 19 18,G 19 (f 20 11 2),G 19 (l 21 20),G 19 (E 22 117 [.t 21,i 6,.f 118]),a 23 19 22,m 24 23,G 24 (f 25 12 2),G 24 (l 26 25),G 24 (E 27 117 [.t 26,i 4,.f 116]),a 28 24 27,m 4 28],.ret],[.t 4]⟩).b
theorem k76 : EE.fns 76 = some uP := by kernel_rfl
def uF : CF := ({ b := _ } : V (α := CF) ⟨9,Q [R [z 4 false],R [m 5 0,m 6 1,C 7 119 [5,6],B 8 .geq 7 0,m 4 8],.ret],[.t 4]⟩).b
theorem k77 : EE.fns 77 = some uF := by kernel_rfl
def zF : CF := ({ b := _ } : V (α := CF) ⟨6,Q [R [z 2 false],R [m 3 0,C 4 79 [3],u 5 4,m 2 5],.ret],[.t 2]⟩).b
theorem k78 : EE.fns 78 = some zF := by kernel_rfl
def vG : CF := ({ b := _ } : V (α := CF) ⟨13,Q [R [z 2 false],R [m 3 0,k 4 (.lenT (.t 3)),E 5 82 [.t 4,i 1,i 900],m 6 5,G 6 (m 7 0),G 6 (E 8 120 [.t 7,i 0,i 8]),G 6 (m 9 0),G 6 (k 10 (.lenT (.t 9))),G 6 (b 11 .eql 8 10),a 12 6 11,m 2 12],.ret],[.t 2]⟩).b
theorem k79 : EE.fns 79 = some vG := by kernel_rfl
def sG : CF := ({ b := _ } : V (α := CF) ⟨42,Q [R [M 1 0,z 2 false],R [f 5 2 1,l 6 5,E 7 121 [.t 6,.f 122],m 3 7],R [f 8 3 1,l 9 8,E 10 121 [.t 9,.f 123],m 4 10],R [m 11 3,m 12 11,G 12 (m 13 4),a 14 12 13,m 15 14,G 15 (f 16 0 1),G 15 (l 17 16),G 15 (h 18 17),G 15 (B 19 .eql 18 3),a 20 15 19,m 21 20,G 21 (f 22 0 1),G 21 (l 23 22),G 21 (E 24 117 [.t 23,i 3,.f 118]),a 25 21 24,m 26 25,G 26 (f 27 1 1),G 26 (l 28 27),G 26 (h 29 28),G 26 (B 30 .eql 29 3),a 31 26 30,m 32 31,G 32 (f 33 1 1),G 32 (l 34 33),G 32 (E 35 117 [.t 34,i 3,.f 118]),a 36 32 35,m 37 36,G 37 (f 38 4 1),G 37 (l 39 38),G 37 (E 40 82 [.t 39,i 0,i 20]),a 41 37 40,m 2 41],.ret],[.t 2]⟩).b
theorem k80 : EE.fns 80 = some sG := by kernel_rfl
def xI : CF := ({ b := _ } : V (α := CF) ⟨5,Q [R [z 2 false],R [m 3 0,E 4 82 [.t 3,i 0,i 100000],m 2 4],.ret],[.t 2]⟩).b
theorem k81 : EE.fns 81 = some xI := by kernel_rfl
def nV : CF := ({ b := _ } : V (α := CF) ⟨15,Q [R [z 6 false],R [m 7 0,m 8 1,b 9 .geq 7 8,m 10 9,G 10 (m 11 0),G 10 (m 12 2),G 10 (b 13 .leq 11 12),a 14 10 13,m 6 14],.ret],[.t 6]⟩).b
theorem k82 : EE.fns 82 = some nV := by kernel_rfl
def tE : CF := ({ b := _ } : V (α := CF) ⟨53,Q [R [M 1 0,z 2 false],Q [R [f 7 0 1,l 8 7,h 9 8,j 10 0],F 0 (Q [R [b 11 .lss 10 9],U 11 (.exit 0),.block 1 (Q [R [m 12 10,A 13 1 8 10,l 14 13,m 3 12,m 4 14],R [m 15 4,C 16 79 [15],u 17 16,m 18 17,H 18 (f 19 0 1),H 18 (l 20 19),H 18 (m 21 3),H 18 (k 22 (.slc 1 (.t 20) .none (.some (.t 21)))),H 18 (m 23 4),H 18 (C 24 124 [22,23]),o 25 18 24],J 25 (Q [R [z 2 false],.ret])]),R [B 26 .add 10 1,m 10 26]])],Q [R [f 27 1 1,l 28 27,h 29 28,j 30 0],F 2 (Q [R [b 31 .lss 30 29],U 31 (.exit 2),.block 3 (Q [R [A 32 1 28 30,l 33 32,m 6 33],R [m 34 6,C 35 110 [34],u 36 35],J 36 (Q [R [z 2 false],.ret])]),R [B 37 .add 30 1,m 30 37]])],R [f 38 0 1,l 39 38,h 40 39,B 41 .leq 40 60,m 42 41,G 42 (f 43 1 1),G 42 (l 44 43),G 42 (h 45 44),G 42 (B 46 .leq 45 40),a 47 42 46,m 48 47,G 48 (f 49 1 1),G 48 (l 50 49),G 48 (C 51 125 [50]),a 52 48 51,m 2 52],.ret],[.t 2]⟩).b
theorem k83 : EE.fns 83 = some tE := by kernel_rfl
def sN : CF := ({ b := _ } : V (α := CF) ⟨59,Q [R [c 2 (.string ⟨#[]⟩)],Q [R [m 8 0,B 9 .eql 8 0],J 9 (Q [R [c 2 (.string ⟨#[48]⟩)],.ret])],R [k 10 (.mkO 0 1 y10 []),m 3 10],Q [R [m 11 0,m 4 11],F 0 (Q [Q [R [m 12 4,B 13 .neq 12 0],U 13 (.exit 0)],.block 1 (Q [R [m 16 4,B 17 .rem 16 10,m 5 17],Q [R [m 18 5,B 19 .lss 18 0],J 19 (R [m 20 5,k 21 (.un .neg (.t 20)),m 5 21])],R [m 22 3,m 23 5,k 24 (.bin .add (i 48) (.t 23)),k 25 (.toInt .u8 (.t 24)),k 26 (.mkV 1 1 y10 [(0,.t 25)]),k 27 (.app 1 1 (.t 22) (.t 26)),m 3 27]]),R [m 14 4,B 15 .quo 14 10,m 4 15]])],Q [R [m 28 0,B 29 .lss 28 0],J 29 (R [m 30 3,k 31 (.mkV 1 1 y10 [(0,.c (.int .u8 45))]),k 32 (.app 1 1 (.t 30) (.t 31)),m 3 32])],Q [R [m 33 3,h 34 33,B 35 .sub 34 1,j 6 0,m 7 35],F 2 (Q [Q [R [m 36 6,m 37 7,b 38 .lss 36 37],U 38 (.exit 2)],.block 3 (D [m 43 3,m 44 6,m 45 3,m 46 7,m 47 3,m 48 7,p [4,5] (A 49 1 47 48),p [6,4,5] (l 50 49),m 51 3,m 52 6,p [8,9] (A 53 1 51 52),p [10,8,9] (l 54 53),p [0,1,4,5,6,7,11,10,8,9] (A 55 1 43 44),p [12,0,1,4,5,6,7,11,10,8,9] (s 1 55 50),p [2,3,0,1,4,5,6,7,8,9,10,11,12,13] (A 56 1 45 46),p [14,2,3,0,1,4,5,6,7,8,9,10,11,12,13] (s 1 56 54)]),R [m 39 6,B 40 .add 39 1,m 41 7,B 42 .sub 41 1,m 6 40,m 7 42]])],R [m 57 3,k 58 (.b2s (.t 57)),m 2 58],.ret],[.t 2]⟩).b
theorem k90 : EE.fns 90 = some sN := by kernel_rfl
def wU : CF := ({ b := _ } : V (α := CF) ⟨59,Q [R [z 6 false],Q [R [m 9 0,h 10 9,B 11 .gtr 10 6],J 11 (Q [R [z 6 false],.ret])],Q [R [j 7 0],F 0 (Q [Q [R [m 12 7,m 13 0,h 14 13,b 15 .lss 12 14],U 15 (.exit 0)],.block 1 (Q [R [m 18 0,m 19 7,A 20 2 18 19,L 21 2 20,N 8 y11,s 2 8 21],D [f 22 0 8,p [0] (l 23 22),p [1,0] (B 24 .lss 23 0),p [2,1,0] (m 25 24),p [3,2,1,0] (H 25 (f 26 0 8)),p [4,3,2,1,0] (H 25 (l 27 26)),p [3,2,1,0] (H 25 (m 28 1)),p [5,4,3,2,1,0,6] (H 25 (b 29 .geq 27 28)),p [3,2,1,0,7,5,4,6] (o 30 25 29),p [8,3,2,1,0,7,5,4,6] (m 31 30),p [9,8,3,2,1,0,7,5,4,6] (H 31 (f 32 1 8)),p [10,9,8,3,2,1,0,7,5,4,6] (H 31 (l 33 32)),p [11,10,9,8,3,2,1,0,7,5,4,6] (H 31 (B 34 .lss 33 0)),p [9,8,3,2,1,0,7,5,4,6,12,11,10] (o 35 31 34),p [13,9,8,3,2,1,0,7,5,4,6,12,11,10] (m 36 35),p [14,13,9,8,3,2,1,0,7,5,4,6,12,11,10] (H 36 (f 37 1 8)),p [15,14,13,9,8,3,2,1,0,7,5,4,6,12,11,10] (H 36 (l 38 37)),p [14,13,9,8,3,2,1,0,7,5,4,6,12,11,10] (H 36 (m 39 1)),p [16,15,14,13,9,8,3,2,1,0,7,5,4,6,12,11,10,17] (H 36 (b 40 .geq 38 39)),p [14,13,9,8,3,2,1,0,7,5,4,6,12,11,10,18,16,15,17] (o 41 36 40),p [19,14,13,9,8,3,2,1,0,7,5,4,6,12,11,10,18,16,15,17] (m 42 41),p [20,19,14,13,9,8,3,2,1,0,7,5,4,6,12,11,10,18,16,15,17] (H 42 (m 43 2)),p [21,20,19,14,13,9,8,3,2,1,0,7,5,4,6,12,11,10,18,16,15,17] (H 42 (m 44 43)),p [22,21,20,19,14,13,9,8,3,2,1,0,7,5,4,6,12,11,10,18,16,15,17] (G 44 (f 45 0 8)),p [23,22,21,20,19,14,13,9,8,3,2,1,0,7,5,4,6,12,11,10,18,16,15,17] (G 44 (l 46 45)),p [22,21,20,19,14,13,9,8,3,2,1,0,7,5,4,6,12,11,10,18,16,15,17] (G 44 (f 47 1 8)),p [25,22,21,20,19,14,13,9,8,3,2,1,0,7,5,4,6,12,11,10,18,16,15,17] (G 44 (l 48 47)),p [24,23,22,21,20,19,14,13,9,8,3,2,1,0,7,5,4,6,12,11,10,18,16,15,17,26,25] (G 44 (b 49 .eql 46 48)),p [22,21,20,19,14,13,9,8,3,2,1,0,7,5,4,6,12,11,10,18,16,15,17,27,24,23,26,25] (H 42 (a 50 44 49)),p [20,19,14,13,9,8,3,2,1,0,7,5,4,6,12,11,10,18,16,15,17,28,22,21,27,24,23,26,25] (o 51 42 50),p [29,20,19,14,13,9,8,3,2,1,0,7,5,4,6,12,11,10,18,16,15,17,28,22,21,27,24,23,26,25] (m 52 51),p [30,29,20,19,14,13,9,8,3,2,1,0,7,5,4,6,12,11,10,18,16,15,17,28,22,21,27,24,23,26,25] (H 52 (m 53 0)),p [30,29,20,19,14,13,9,8,3,2,1,0,7,5,4,6,12,11,10,18,16,15,17,28,22,21,27,24,23,26,25] (H 52 (m 54 7)),p [31,30,29,20,19,14,13,9,8,3,2,1,0,7,5,4,6,12,11,10,18,16,15,17,28,22,21,27,24,23,26,25,32] (H 52 (k 55 (.slc 2 (.t 53) .none (.some (.t 54))))),p [30,29,20,19,14,13,9,8,3,2,1,0,7,5,4,6,12,11,10,18,16,15,17,28,22,21,27,24,23,26,25] (H 52 (L 56 2 8)),p [33,31,30,29,20,19,14,13,9,8,3,2,1,0,7,5,4,6,12,11,10,18,16,15,17,28,22,21,27,24,23,26,25,32,34] (H 52 (C 57 139 [55,56])),p [30,29,20,19,14,13,9,8,3,2,1,0,7,5,4,6,12,11,10,18,16,15,17,28,22,21,27,24,23,26,25,35,33,31,32,34] (o 58 52 57)],J 58 (Q [R [z 6 false],.ret])]),R [m 16 7,B 17 .add 16 1,m 7 17]])],R [z 6 true],.ret],[.t 6]⟩).b
theorem k97 : EE.fns 97 = some wU := by kernel_rfl
def c98 : CF := ({ b := _ } : V (α := CF) ⟨18,Q [R [z 4 false],Q [R [j 5 0],F 0 (Q [Q [R [m 6 5,m 7 0,h 8 7,b 9 .lss 6 8],U 9 (.exit 0)],.block 1 (Q [R [m 12 0,m 13 5,A 14 1 12 13,l 15 14,m 16 1,b 17 .eql 15 16],J 17 (Q [R [z 4 true],.ret])]),R [m 10 5,B 11 .add 10 1,m 5 11]])],R [z 4 false],.ret],[.t 4]⟩).b
theorem k98 : EE.fns 98 = some c98 := by kernel_rfl
def oR : CF := ({ b := _ } : V (α := CF) ⟨119,Q [R [j 6 0,j 7 0],Q [R [m 17 1,m 18 0,k 19 (.lenT (.t 18)),b 20 .geq 17 19,m 21 20,H 21 (m 22 2),H 21 (B 23 .lss 22 1),o 24 21 23],J 24 (Q [R [j 6 0,j 7 0],.ret])],R [m 26 0,m 27 1,B 28 .add 27 1,k 29 (.slcS (.t 26) (.some (.t 28)) .none),C 30 140 [29],m 25 30,e 31 25 0,e 32 25 1,m 8 31,m 9 32],Q [R [m 33 9,B 34 .eql 33 0],J 34 (Q [R [j 6 0,j 7 0],.ret])],R [m 35 1,B 36 .add 35 1,m 37 9,b 38 .add 36 37,m 10 38],Q [R [m 39 0,m 40 1,k 41 (.idx (.t 39) (.t 40))],.block 0 (Q [R [k 43 (.bin .eql (.t 41) (.c (.int .u8 97))),m 42 43],W 42 (Q [Q [R [m 44 8,B 45 .gtr 44 40,m 46 45,H 46 (m 47 8),H 46 (m 48 0),H 46 (k 49 (.lenT (.t 48))),H 46 (m 50 10),H 46 (b 51 .sub 49 50),H 46 (b 52 .gtr 47 51),o 53 46 52],J 53 (Q [R [j 6 0,j 7 0],.ret])],R [m 54 9,k 55 (.bin .add (i 1) (.t 54)),m 56 8,b 57 .add 55 56,m 6 57,j 7 1],.ret]) (Q [R [k 59 (.bin .eql (.t 41) (.c (.int .u8 107))),m 58 59],W 58 (Q [Q [R [m 60 8,E 61 48 [.t 60,i 1,i 1000000],u 62 61],J 62 (Q [R [j 6 0,j 7 0],.ret])],R [m 63 9,k 64 (.bin .add (i 1) (.t 63)),m 6 64,j 7 1],.ret]) (Q [R [k 66 (.bin .eql (.t 41) (.c (.int .u8 115))),m 65 66],W 65 (Q [R [m 68 0,m 69 10,m 70 2,B 71 .sub 70 1,C 72 99 [68,69,71],m 67 72,e 73 67 0,e 74 67 1,m 11 73,m 12 74],Q [R [m 75 11,B 76 .eql 75 0,m 77 76,H 77 (m 78 8),H 77 (E 79 48 [.t 78,i 1,i 1000000]),H 77 (u 80 79),o 81 77 80],J 81 (Q [R [j 6 0,j 7 0],.ret])],R [m 82 9,k 83 (.bin .add (i 1) (.t 82)),m 84 11,b 85 .add 83 84,m 86 12,k 87 (.bin .add (i 1) (.t 86)),m 6 85,m 7 87],.ret]) (Q [R [k 89 (.bin .eql (.t 41) (.c (.int .u8 108))),m 88 89],J 88 (Q [Q [R [m 90 8,B 91 .gtr 90 12],J 91 (Q [R [j 6 0,j 7 0],.ret])],R [j 13 0],Q [R [j 14 0],F 1 (Q [Q [R [m 92 14,m 93 8,b 94 .lss 92 93],U 94 (.exit 1)],.block 2 (Q [R [m 98 0,m 99 10,m 100 2,B 101 .sub 100 1,C 102 99 [98,99,101],m 97 102,e 103 97 0,e 104 97 1,m 15 103,m 16 104],Q [R [m 105 15,B 106 .eql 105 0],J 106 (Q [R [j 6 0,j 7 0],.ret])],R [m 107 10,m 108 15,b 109 .add 107 108,m 10 109],R [m 110 16,m 111 13,b 112 .gtr 110 111],J 112 (R [m 113 16,m 13 113])]),R [m 95 14,B 96 .add 95 1,m 14 96]])],R [m 114 10,m 115 1,b 116 .sub 114 115,m 117 13,k 118 (.bin .add (i 1) (.t 117)),m 6 116,m 7 118],.ret])])])])])],R [j 6 0,j 7 0],.ret],[.t 6,.t 7]⟩).b
theorem k99 : EE.fns 99 = some oR := by kernel_rfl
def iK : CF := ({ b := _ } : V (α := CF) ⟨9,Q [R [z 2 false],R [m 3 0,E 4 48 [.t 3,i 0,i 2],m 5 4,H 5 (m 6 0),H 5 (E 7 48 [.t 6,i 10,i 12]),o 8 5 7,m 2 8],.ret],[.t 2]⟩).b
theorem zW : EE.fns 100 = some iK := by kernel_rfl
def lJ : CF := ({ b := _ } : V (α := CF) ⟨16,Q [R [M 1 0,z 2 false],R [f 3 0 1,l 4 3,E 5 48 [.t 4,i 0,i 7],m 6 5,G 6 (f 7 1 1),G 6 (l 8 7),G 6 (E 9 48 [.t 8,i 0,i 255]),a 10 6 9,m 11 10,G 11 (f 12 2 1),G 11 (l 13 12),G 11 (E 14 48 [.t 13,i 0,i 100000]),a 15 11 14,m 2 15],.ret],[.t 2]⟩).b
theorem vS : EE.fns 101 = some lJ := by kernel_rfl
def fX : CF := ({ b := _ } : V (α := CF) ⟨16,Q [R [M 1 0,z 2 false],R [f 3 0 1,l 4 3,C 5 61 [4],m 6 5,G 6 (f 7 1 1),G 6 (l 8 7),G 6 (E 9 48 [.t 8,i 0,i 100000]),a 10 6 9,m 11 10,G 11 (f 12 2 1),G 11 (l 13 12),G 11 (E 14 48 [.t 13,i 0,i 1000000]),a 15 11 14,m 2 15],.ret],[.t 2]⟩).b
theorem tX : EE.fns 102 = some fX := by kernel_rfl
def lH : CF := ({ b := _ } : V (α := CF) ⟨18,Q [R [M 3 1,z 4 false],Q [R [j 5 0],F 0 (Q [Q [R [m 6 5,m 7 0,h 8 7,b 9 .lss 6 8],U 9 (.exit 0)],.block 1 (Q [D [m 12 0,m 13 5,p [0,1] (A 14 3 12 13),p [2,0,1] (L 15 3 14),L 16 3 3,p [3,2,0,1,4] (k 17 (.aeq false [0,0,0] (.t 15) (.t 16)))],J 17 (Q [R [z 4 true],.ret])]),R [m 10 5,B 11 .add 10 1,m 5 11]])],R [z 4 false],.ret],[.t 4]⟩).b
theorem Aat : EE.fns 103 = some lH := by kernel_rfl
def gQ : CF := ({ b := _ } : V (α := CF) ⟨12,Q [R [j 4 0],R [m 5 1,m 6 0,h 7 6,b 8 .sub 5 7,m 1 8],Q [R [m 9 1,B 10 .lss 9 0],J 10 (Q [R [j 4 (-1)],.ret])],R [m 11 1,m 4 11],.ret],[.t 4]⟩).b
theorem vY : EE.fns 104 = some gQ := by kernel_rfl
def nH : CF := ({ b := _ } : V (α := CF) ⟨5,Q [R [z 2 false],R [m 3 0,E 4 82 [.t 3,i 0,i 1000000],m 2 4],.ret],[.t 2]⟩).b
theorem rR : EE.fns 109 = some nH := by kernel_rfl
def hC : CF := ({ b := _ } : V (α := CF) ⟨5,Q [R [z 2 false],R [m 3 0,E 4 82 [.t 3,i 1,i 1000000],m 2 4],.ret],[.t 2]⟩).b
theorem xT : EE.fns 110 = some hC := by kernel_rfl
def mW : CF := ({ b := _ } : V (α := CF) ⟨5,Q [R [z 2 false],R [m 3 0,E 4 82 [.t 3,i 0,i 5],m 2 4],.ret],[.t 2]⟩).b
theorem yI : EE.fns 111 = some mW := by kernel_rfl
def fS : CF := ({ b := _ } : V (α := CF) ⟨10,Q [R [z 2 false],R [m 3 0,C 4 116 [3],m 5 4,H 5 (m 6 0),H 5 (B 7 .sub 6 10),H 5 (C 8 118 [7]),o 9 5 8,m 2 9],.ret],[.t 2]⟩).b
theorem zM : EE.fns 112 = some fS := by kernel_rfl
def mM : CF := ({ b := _ } : V (α := CF) ⟨16,Q [R [M 1 0,z 2 false],R [f 3 0 1,l 4 3,E 5 82 [.t 4,i 0,i 7],m 6 5,G 6 (f 7 1 1),G 6 (l 8 7),G 6 (E 9 82 [.t 8,i 0,i 255]),a 10 6 9,m 11 10,G 11 (f 12 2 1),G 11 (l 13 12),G 11 (C 14 81 [13]),a 15 11 14,m 2 15],.ret],[.t 2]⟩).b
theorem uM : EE.fns 113 = some mM := by kernel_rfl
def lU : CF := ({ b := _ } : V (α := CF) ⟨16,Q [R [M 1 0,z 2 false],R [f 3 0 1,l 4 3,C 5 111 [4],m 6 5,G 6 (f 7 1 1),G 6 (l 8 7),G 6 (C 9 81 [8]),a 10 6 9,m 11 10,G 11 (f 12 2 1),G 11 (l 13 12),G 11 (E 14 82 [.t 13,i 0,i 1000000]),a 15 11 14,m 2 15],.ret],[.t 2]⟩).b
theorem sO : EE.fns 114 = some lU := by kernel_rfl
def mR : CF := ({ b := _ } : V (α := CF) ⟨9,Q [R [M 3 1,z 4 false],R [m 5 0,L 6 3 3,C 7 141 [5,6],B 8 .geq 7 0,m 4 8],.ret],[.t 4]⟩).b
theorem vP : EE.fns 115 = some mR := by kernel_rfl
def lQ : CF := ({ b := _ } : V (α := CF) ⟨5,Q [R [z 2 false],R [m 3 0,E 4 82 [.t 3,i 0,i 2],m 2 4],.ret],[.t 2]⟩).b
theorem Aaz : EE.fns 116 = some lQ := by kernel_rfl
def kK : CF := ({ b := _ } : V (α := CF) ⟨24,Q [R [z 6 false],Q [R [m 9 0,h 10 9,j 11 0],F 0 (Q [R [b 12 .lss 11 10],U 12 (.exit 0),.block 1 (Q [R [A 13 1 9 11,l 14 13,m 8 14],R [m 15 2,m 16 8,k 17 (.callV (.t 15) [.t 16]),u 18 17],J 18 (Q [R [z 6 false],.ret])]),R [B 19 .add 11 1,m 11 19]])],R [m 20 0,h 21 20,m 22 1,b 23 .leq 21 22,m 6 23],.ret],[.t 6]⟩).b
theorem yM : EE.fns 117 = some kK := by kernel_rfl
def gV : CF := ({ b := _ } : V (α := CF) ⟨5,Q [R [z 2 false],R [m 3 0,E 4 82 [.t 3,i 0,i 2],m 2 4],.ret],[.t 2]⟩).b
theorem Abd : EE.fns 118 = some gV := by kernel_rfl
def mK : CF := ({ b := _ } : V (α := CF) ⟨19,Q [R [j 4 0],Q [R [m 6 0,h 7 6,j 8 0],F 0 (Q [R [b 9 .lss 8 7],U 9 (.exit 0),.block 1 (Q [R [m 10 8,m 5 10],R [m 11 1,m 12 0,m 13 5,A 14 1 12 13,l 15 14,k 16 (.callV (.t 11) [.t 15])],J 16 (Q [R [m 17 5,m 4 17],.ret])]),R [B 18 .add 8 1,m 8 18]])],R [j 4 (-1)],.ret],[.t 4]⟩).b
theorem yP : EE.fns 119 = some mK := by kernel_rfl
def Y1 : CF := ({ b := _ } : V (α := CF) ⟨80,Q [R [j 6 0],Q [R [m 10 1,m 11 0,k 12 (.lenT (.t 11)),b 13 .geq 10 12,m 14 13,H 14 (m 15 2),H 14 (B 16 .lss 15 1),o 17 14 16],J 17 (Q [R [j 6 (-1)],.ret])],R [m 19 0,m 20 1,B 21 .add 20 1,C 22 142 [19,21],m 18 22,e 23 18 0,e 24 18 1,m 7 23,m 8 24],Q [R [m 25 0,m 26 1,k 27 (.idx (.t 25) (.t 26))],.block 0 (Q [R [k 29 (.bin .eql (.t 27) (.c (.int .u8 97))),m 28 29],W 28 (Q [Q [R [m 30 7,E 31 82 [.t 30,i 0,i 40],u 32 31,m 33 32,H 33 (m 34 7),H 33 (m 35 0),H 33 (k 36 (.lenT (.t 35))),H 33 (m 37 8),H 33 (b 38 .sub 36 37),H 33 (b 39 .gtr 34 38),o 40 33 39],J 40 (Q [R [j 6 (-1)],.ret])],R [m 41 8,m 42 7,b 43 .add 41 42,m 6 43],.ret]) (Q [R [k 45 (.bin .eql (.t 27) (.c (.int .u8 107))),m 44 45],W 44 (Q [Q [R [m 46 7,C 47 110 [46],u 48 47],J 48 (Q [R [j 6 (-1)],.ret])],R [m 49 8,m 6 49],.ret]) (Q [R [k 51 (.bin .eql (.t 27) (.c (.int .u8 108))),m 50 51],W 50 (Q [Q [R [m 52 7,E 53 82 [.t 52,i 0,i 12],u 54 53],J 54 (Q [R [j 6 (-1)],.ret])],Q [R [j 9 0],F 1 (Q [Q [R [m 55 9,m 56 7,b 57 .lss 55 56,m 58 57,G 58 (m 59 8),G 58 (B 60 .geq 59 0),a 61 58 60],U 61 (.exit 1)],.block 2 (R [m 64 0,m 65 8,m 66 2,B 67 .sub 66 1,C 68 120 [64,65,67],m 8 68]),R [m 62 9,B 63 .add 62 1,m 9 63]])],R [m 69 8,m 6 69],.ret]) (Q [R [k 71 (.bin .eql (.t 27) (.c (.int .u8 115))),m 70 71],J 70 (Q [Q [R [m 72 7,C 73 110 [72],u 74 73],J 74 (Q [R [j 6 (-1)],.ret])],R [m 75 0,m 76 8,m 77 2,B 78 .sub 77 1,C 79 120 [75,76,78],m 6 79],.ret])])])])])],R [j 6 (-1)],.ret],[.t 6]⟩).b
theorem oK : EE.fns 120 = some Y1 := by kernel_rfl
def lD : CF := ({ b := _ } : V (α := CF) ⟨29,Q [R [z 4 false],Q [R [m 7 0,h 8 7,j 9 0],F 0 (Q [R [b 10 .lss 9 8],U 10 (.exit 0),.block 1 (Q [R [m 11 9,A 12 2 7 9,L 13 2 12,N 6 y11,m 5 11,s 2 6 13],D [m 14 1,L 15 2 6,p [0,1] (k 16 (.callV (.t 14) [.t 15])),p [2,0,1] (u 17 16),p [3,2,0,1] (m 18 17),p [4,3,2,0,1] (H 18 (m 19 0)),p [4,3,2,0,1] (H 18 (m 20 5)),p [5,4,3,2,0,1,6] (H 18 (k 21 (.slc 2 (.t 19) .none (.some (.t 20))))),p [4,3,2,0,1] (H 18 (L 22 2 6)),p [7,5,4,3,2,0,1,6,8] (H 18 (C 23 143 [21,22])),p [4,3,2,0,1,9,7,5,6,8] (o 24 18 23)],J 24 (Q [R [z 4 false],.ret])]),R [B 25 .add 9 1,m 9 25]])],R [m 26 0,h 27 26,B 28 .leq 27 6,m 4 28],.ret],[.t 4]⟩).b
theorem xN : EE.fns 121 = some lD := by kernel_rfl
def lB : CF := ({ b := _ } : V (α := CF) ⟨18,Q [R [M 1 0,z 2 false],R [f 3 0 1,l 4 3,C 5 118 [4],m 6 5,G 6 (f 7 1 1),G 6 (l 8 7),G 6 (C 9 118 [8]),a 10 6 9,m 11 10,G 11 (f 12 0 1),G 11 (l 13 12),G 11 (f 14 1 1),G 11 (l 15 14),G 11 (b 16 .neq 13 15),a 17 11 16,m 2 17],.ret],[.t 2]⟩).b
theorem tP : EE.fns 122 = some lB := by kernel_rfl
def lR : CF := ({ b := _ } : V (α := CF) ⟨11,Q [R [M 1 0,z 2 false],R [f 3 0 1,l 4 3,C 5 116 [4],m 6 5,G 6 (f 7 1 1),G 6 (l 8 7),G 6 (C 9 116 [8]),a 10 6 9,m 2 10],.ret],[.t 2]⟩).b
theorem sZ : EE.fns 123 = some lR := by kernel_rfl
def mD : CF := ({ b := _ } : V (α := CF) ⟨9,Q [R [z 4 false],R [m 5 0,m 6 1,C 7 144 [5,6],B 8 .geq 7 0,m 4 8],.ret],[.t 4]⟩).b
theorem yE : EE.fns 124 = some mD := by kernel_rfl
def gB : CF := ({ b := _ } : V (α := CF) ⟨20,Q [R [z 2 false],Q [R [j 3 1],F 0 (Q [Q [R [m 4 3,m 5 0,h 6 5,b 7 .lss 4 6],U 7 (.exit 0)],.block 1 (Q [D [m 10 0,m 11 3,p [1] (B 12 .sub 11 1),p [0,2,1] (A 13 1 10 12),p [3,0,2,1] (l 14 13),m 15 0,m 16 3,p [5,6] (A 17 1 15 16),p [7,5,6] (l 18 17),p [4,3,0,2,1,8,7,5,6] (b 19 .geq 14 18)],J 19 (Q [R [z 2 false],.ret])]),R [m 8 3,B 9 .add 8 1,m 3 9]])],R [z 2 true],.ret],[.t 2]⟩).b
theorem Aaw : EE.fns 125 = some gB := by kernel_rfl
def lL : CF := ({ b := _ } : V (α := CF) ⟨18,Q [R [M 3 1,z 4 false],Q [R [j 5 0],F 0 (Q [Q [R [m 6 5,m 7 0,h 8 7,b 9 .lss 6 8],U 9 (.exit 0)],.block 1 (Q [D [m 12 0,m 13 5,p [0,1] (A 14 2 12 13),p [2,0,1] (L 15 2 14),L 16 2 3,p [3,2,0,1,4] (k 17 (.aeq false [0,0] (.t 15) (.t 16)))],J 17 (Q [R [z 4 true],.ret])]),R [m 10 5,B 11 .add 10 1,m 5 11]])],R [z 4 false],.ret],[.t 4]⟩).b
theorem rV : EE.fns 139 = some lL := by kernel_rfl
def kR : CF := ({ b := _ } : V (α := CF) ⟨39,Q [R [j 2 0,j 3 0],Q [R [j 4 1],F 0 (Q [Q [R [m 7 4,B 8 .leq 7 7,m 9 8,G 9 (m 10 4),G 9 (m 11 0),G 9 (k 12 (.lenT (.t 11))),G 9 (b 13 .leq 10 12),a 14 9 13],U 14 (.exit 0)],.block 1 (Q [R [j 5 0],Q [R [m 17 4,B 18 .sub 17 1,m 6 18],F 2 (Q [Q [R [m 19 6,B 20 .geq 19 0],U 20 (.exit 2)],.block 3 (R [m 23 5,B 24 .mul 23 128,m 25 0,m 26 6,k 27 (.idx (.t 25) (.t 26)),k 28 (.toInt .i64 (.t 27)),B 29 .rem 28 128,b 30 .add 24 29,m 5 30]),R [m 21 6,B 22 .sub 21 1,m 6 22]])],D [m 31 5,p [0] (C 32 160 [31]),m 33 0,m 34 4,p [2,3] (k 35 (.slcS (.t 33) .none (.some (.t 34)))),p [1,0,4,2,3] (b 36 .eql 32 35)],J 36 (Q [R [m 37 5,m 38 4,m 2 37,m 3 38],.ret])]),R [m 15 4,B 16 .add 15 1,m 4 16]])],R [j 2 0,j 3 0],.ret],[.t 2,.t 3]⟩).b
theorem zX : EE.fns 140 = some kR := by kernel_rfl
def lV : CF := ({ b := _ } : V (α := CF) ⟨19,Q [R [M 3 1,j 4 0],Q [R [m 6 0,h 7 6,j 8 0],F 0 (Q [R [b 9 .lss 8 7],U 9 (.exit 0),.block 1 (Q [R [m 10 8,m 5 10],D [L 11 3 3,m 12 0,m 13 5,p [1,2] (A 14 3 12 13),p [3,1,2] (L 15 3 14),p [0,4,3,1,2] (k 16 (.aeq false [0,0,0] (.t 11) (.t 15)))],J 16 (Q [R [m 17 5,m 4 17],.ret])]),R [B 18 .add 8 1,m 8 18]])],R [j 4 (-1)],.ret],[.t 4]⟩).b
theorem vR : EE.fns 141 = some lV := by kernel_rfl
def kG : CF := ({ b := _ } : V (α := CF) ⟨22,Q [R [j 4 0,j 5 0],R [m 9 0,m 10 1,k 11 (.slcS (.t 9) (.some (.t 10)) .none),C 12 161 [11],m 8 12,e 13 8 0,e 14 8 1,m 6 13,m 7 14],Q [R [m 15 7,B 16 .eql 15 0],J 16 (Q [R [m 17 1,j 4 (-1),m 5 17],.ret])],R [m 18 6,m 19 1,m 20 7,b 21 .add 19 20,m 4 18,m 5 21],.ret],[.t 4,.t 5]⟩).b
theorem tM : EE.fns 142 = some kG := by kernel_rfl
def gZ : CF := ({ b := _ } : V (α := CF) ⟨9,Q [R [M 3 1,z 4 false],R [m 5 0,L 6 2 3,C 7 162 [5,6],B 8 .geq 7 0,m 4 8],.ret],[.t 4]⟩).b
theorem wJ : EE.fns 143 = some gZ := by kernel_rfl
def lY : CF := ({ b := _ } : V (α := CF) ⟨19,Q [R [j 4 0],Q [R [m 6 0,h 7 6,j 8 0],F 0 (Q [R [b 9 .lss 8 7],U 9 (.exit 0),.block 1 (Q [R [m 10 8,m 5 10],R [m 11 1,m 12 0,m 13 5,A 14 1 12 13,l 15 14,b 16 .eql 11 15],J 16 (Q [R [m 17 5,m 4 17],.ret])]),R [B 18 .add 8 1,m 8 18]])],R [j 4 (-1)],.ret],[.t 4]⟩).b
theorem uA : EE.fns 144 = some lY := by kernel_rfl
def kP : CF := ({ b := _ } : V (α := CF) ⟨40,Q [R [j 2 0,j 3 0],R [j 4 0],Q [R [j 5 0],F 0 (Q [Q [R [m 6 5,m 7 0,k 8 (.lenT (.t 7)),b 9 .lss 6 8,m 10 9,G 10 (m 11 5),G 10 (B 12 .lss 11 7),a 13 10 12],U 13 (.exit 0)],.block 1 (Q [R [m 16 4,m 17 0,m 18 5,k 19 (.idx (.t 17) (.t 18)),k 20 (.bin .and (.t 19) (.c (.int .u8 127))),k 21 (.toInt .i64 (.t 20)),m 22 5,k 23 (.bin .mul (i 7) (.t 22)),b 24 .shl 21 23,b 25 .or 16 24,m 4 25],R [m 26 0,m 27 5,k 28 (.idx (.t 26) (.t 27)),k 29 (.bin .lss (.t 28) (.c (.int .u8 128)))],J 29 (Q [Q [D [m 30 4,p [0] (C 31 172 [30]),m 32 0,m 33 5,p [3] (B 34 .add 33 1),p [2,4,3] (k 35 (.slcS (.t 32) .none (.some (.t 34)))),p [1,0,5,2,4,3] (b 36 .neq 31 35)],J 36 (Q [R [j 2 0,j 3 0],.ret])],R [m 37 4,m 38 5,B 39 .add 38 1,m 2 37,m 3 39],.ret])]),R [m 14 5,B 15 .add 14 1,m 5 15]])],R [j 2 0,j 3 0],.ret],[.t 2,.t 3]⟩).b
theorem wM : EE.fns 161 = some kP := by kernel_rfl
def nC : CF := ({ b := _ } : V (α := CF) ⟨19,Q [R [M 3 1,j 4 0],Q [R [m 6 0,h 7 6,j 8 0],F 0 (Q [R [b 9 .lss 8 7],U 9 (.exit 0),.block 1 (Q [R [m 10 8,m 5 10],D [L 11 2 3,m 12 0,m 13 5,p [1,2] (A 14 2 12 13),p [3,1,2] (L 15 2 14),p [0,4,3,1,2] (k 16 (.aeq false [0,0] (.t 11) (.t 15)))],J 16 (Q [R [m 17 5,m 4 17],.ret])]),R [B 18 .add 8 1,m 8 18]])],R [j 4 (-1)],.ret],[.t 4]⟩).b
theorem sP : EE.fns 162 = some nC := by kernel_rfl
end
section
variable {E : Hb} {m : Md}
theorem Ql {ops : List CO} : ∀ {os : List CO} {s : St} {acc : List (List Nat × Bool)} {P P' : St → Prop}, Pk E m ops os s acc P → (∀ s', P s' → P' s') → Pk E m ops os s acc P'
 | [], _, _, _, _, h, hq => ⟨h.1, hq _ h.2⟩
 | _ :: _, _, _, _, _, h, hq => Fw h fun _ h' => Ql h' hq
theorem P6 {ops : List CO} {n0 : Nat} : ∀ {os : List CO} {s : St} {acc : List (List Nat × Bool × Bool)} {P P' : St → Prop}, Pm E m ops n0 os s acc P → (∀ s', P s' → P' s') → Pm E m ops n0 os s acc P'
 | [], _, _, _, _, h, hq => ⟨h.1, hq _ h.2⟩
 | _ :: _, _, _, _, _, h, hq => Fw h fun _ h' => P6 h' hq
theorem Pz {ops : List CO} {wl wh : Nat} : ∀ {os : List CO} {s : St} {acc : List (List Nat × Bool × Bool)} {P P' : St → Prop}, Xn E m ops wl wh os s acc P → (∀ s', P s' → P' s') → Xn E m ops wl wh os s acc P'
 | [], _, _, _, _, h, hq => ⟨h.1, hq _ h.2⟩
 | _ :: _, _, _, _, _, h, hq => Fw h fun _ h' => Pz h' hq
theorem Yt {ts : List Tk} {P Q : Ex → St → Prop} (hq : ∀ e s', P e s' → Gb E m e ts s' Q) : ∀ (t1 : List Tk), (∀ s, go E m t1 s P → go E m (t1 ++ ts) s Q) ∧ ∀ e s, Gb E m e t1 s P → Gb E m e (t1 ++ ts) s Q
 | [] => by
  refine ⟨fun s h => ?_, fun e s h => ?_⟩
  ·rw [go] at h
   have := hq _ _ h
   rw [Gb] at this
   exact this
  ·have h2 : P e s := by
    cases e with
    | normal => rw [Gb, go] at h; exact h
    | ret => rw [Gb] at h; exact h
    | exit j => rw [Gb] at h; exact h
   exact hq _ _ h2
 | t :: t1 => by
  obtain ⟨i1, i2⟩ := Yt hq t1
  have g : ∀ s, go E m (t :: t1) s P → go E m (t :: t1 ++ ts) s Q := fun s h => by
   rw [List.cons_append]
   cases t with
   | c c => rw [go] at h ⊢; exact F3 h fun e s' h' => i2 e s' h'
   | o d o => rw [go] at h ⊢; exact Fw h fun s' h' => i1 s' h'
   | r os => rw [go] at h ⊢; exact Nz h fun s' h' => i1 s' h'
   | d ops os acc => rw [go] at h ⊢; exact Ql h fun s' h' => i1 s' h'
   | e ops os acc n0 => rw [go] at h ⊢; exact P6 h fun s' h' => i1 s' h'
   | w ops os acc lo hi => rw [go] at h ⊢; exact Pz h fun s' h' => i1 s' h'
   | blk i => rw [go] at h ⊢; exact i1 s h
  refine ⟨g, fun e s h => ?_⟩
  cases e with
  | normal => rw [Gb] at h ⊢; exact g s h
  | ret =>
   rw [Gb] at h ⊢
   have := hq _ _ h
   rw [Gb] at this
   exact this
  | exit j =>
   rw [List.cons_append]
   cases t with
   | blk i =>
    rw [Gb] at h ⊢
    split at h
    ·rename_i hj; rw [if_pos hj]; exact i1 s h
    ·rename_i hj; rw [if_neg hj]; exact i2 _ s h
   | _ => simp only [Gb] at h ⊢; exact i2 _ s h
variable {s s1 s2 : St} {Q : Ex → St → Prop} {L L1 L2 : List Tk}
theorem Se (n : Nat) (P : St → Prop) (h : go E m (L.take n) s fun e s' => e = .normal ∧ P s') (hq : ∀ s', P s' → go E m (L.drop n) s' Q) : go E m L s Q := by
 rw [← List.take_append_drop n L]
 refine (Yt (fun e s' h => ?_) (L.take n)).1 s h
 obtain ⟨rfl, h⟩ := h
 rw [Gb]
 exact hq s' h
theorem P8 {c : Bool} (n1 n2 : Nat) (P : St → Prop) (h1 : c = true → go E m (L1.take n1) s1 fun e s' => e = .normal ∧ P s') (h2 : c = false → go E m (L2.take n2) s2 fun e s' => e = .normal ∧ P s') (he : L2.drop n2 = L1.drop n1)
  (hq : ∀ s', P s' → go E m (L1.drop n1) s' Q) : Bf E m c L1 s1 L2 s2 Q :=
 ⟨fun h => Se n1 P (h1 h) hq, fun h => Se n2 P (h2 h) (by rw [he]; exact hq)⟩
end
attribute [go_sem] List.drop_nil List.take_nil
abbrev Bu (H : Hp) (v : Value) (l : List Int) : Prop := Sl (En eI) 1 H v l
theorem Sl.int {H : Hp} {v : Value} {l : List Int} (h : Bu H v l) {i : Nat} {a : Int} (hi : l[i]? = some a) : ∃ id p o, H[id]? = some o ∧ o[p]? = some (.int .i64 a) ∧
  ∀ (s : St) (x y : X), Av s.ρ x = some v → Av s.ρ y = some (.int .i64 i) → B4 s 1 x y = some (.val (.pointer (some ⟨id, p, some o.length⟩)), s) := by
 obtain ⟨id, p, o, ho, hr, hp, hia⟩ := h.elem hi
 unfold En at hr
 exact ⟨id, p, o, ho, by simpa [eI] using Al hr (j := 0) (by omega), hia⟩
def A4 (E : Hb) (f : Nat) (vs : List Value) (H : Hp) (P : Value → Prop) : Prop := ∀ m : Md, Wr m H → Ci E m f vs H fun r H' => P r ∧ H' = H
theorem Ar {E : Hb} {f : Nat} {cf : CF} {vs : List Value} {H : Hp} {P : Value → Prop} (ht : E.tr f = true) (hp : E.prim f = none) (hf : E.fns f = some cf) (hl : vs.length ≤ cf.nt)
  (h : ∀ m : Md, Wr m H → go E m [.c cf.body] { ρ := Cb vs, gn := 1, H := H } (Xl cf.res true H fun r H' => P r ∧ H' = H)) : A4 E f vs H P := fun m hw => Ut ht hp hf hl (h _ hw)
def Vb {α : Type} (enc : α → List Value) (esz : Nat) (H : Hp) (v : Value) (H' : Hp) (l : List α) : Prop := H <+: H' ∧ Sl (En enc) esz H' v l ∧ Ao H.length v
theorem Bc {N : Nat} {v : Value} (h : Ao N v) : ∀ j ∈ Ae v, N ≤ j := fun j hj => by
 rcases h with rfl | ⟨id, e, len, cap, rfl, hid⟩
 ·simp [Ae] at hj
 ·simp [Ae] at hj; omega
theorem W2 {x N : Nat} {v : Value} (h : Ao N v) (hx : x < N) : x ∉ Ae v := fun hm => by have := Bc h x hm; omega
theorem Ao.mono {N N' : Nat} {v : Value} (h : Ao N v) (hn : N' ≤ N) : Ao N' v := by
 rcases h with h | ⟨id, e, ln, cap, h, hid⟩
 ·exact .inl h
 ·exact .inr ⟨id, e, ln, cap, h, by omega⟩
theorem Eb {H : Hp} : Bu (H ++ [[]]) (.slice (some ⟨H.length, 0, some 1⟩) 0 (0 * 1)) [] := .inr ⟨H.length, 0, 0, [], rfl, by simp, by simp, by simp, by simp, fun i a hi => by simp at hi⟩
theorem Sl.oneI {m : Md} {N : Nat} {H : Hp} {v : Value} {l : List Int} (a : Int) (h : Bu H v l) (ho : Ao N v) (hN : N ≤ H.length) (hw : ∀ id, N ≤ id → m.wr id = true) (hb : l.length ≤ 1048576) :
  ∃ v' H', (∀ (s : St) (x y : X), s.H = H → Av s.ρ x = some v → ex s.ρ y = .vs 1 [.int .i64 a] → Ce m s 1 8 x y = some (.val v', { s with H := H' })) ∧ Bu H' v' (l ++ [a]) ∧ Ao N v' ∧
   (∀ j, j < H.length → j ∉ Ae v → H'[j]? = H[j]?) ∧ H.length ≤ H'.length ∧ (∀ j ∈ Ae v', j ∈ Ae v ∨ H.length ≤ j) ∧ ∀ H0 : Hp, H0.length ≤ N → H0 <+: H → H0 <+: H' := by
 obtain ⟨v', H', h1, h2⟩ := h.app (m := m) (n := 1) (bytes := 8) (l2 := [a]) (cs := [.int .i64 a]) ho hN hw (fun _ => rfl) (by simp) rfl (fun i b hi => by
  cases i with
  | zero => simp at hi; subst hi; rfl
  | succ i => simp at hi) (by unfold Ev.room; simp; omega) (by unfold Ev.room; simp; omega)
 exact ⟨v', H', fun s x y hH hx hy => h1 s x y hH hx (by rw [hy]; rfl), h2⟩
def A0 (a b c : Int) : Bool := decide (a ≥ b) && decide (a ≤ c)
theorem Bz {a b c : Int} : A0 a b c = true ↔ b ≤ a ∧ a ≤ c := by simp [A0]
theorem f48 {H : Hp} {a b c : Int} : Aw EE 48 [.int .i64 a, .int .i64 b, .int .i64 c] H (.bool (A0 a b c)) := by
 refine Ag rfl rfl k48 (by simp [nU]) rfl fun m hw => ?_
 unfold A0
 simp only [go_sem, Nat.reduceEqDiff, reduceCtorEq, nU]
 refine Bf.intro (fun q => ?_) (fun q => ?_) <;> simp only [go_sem, Nat.reduceEqDiff, reduceCtorEq, q]
theorem Cu {m : Md} {draw : Bool} {s : St} {d : Option Nat} {ts : List Tk} {Q : Ex → St → Prop} {a b c : Int} (hw : Wr m s.H) :
  Cj EE m draw 48 (some [.int .i64 a, .int .i64 b, .int .i64 c]) s d ts Q = go EE m ts { s with ρ := Ah s.ρ d (.val (.bool (A0 a b c))) } Q := Bw f48 rfl hw
theorem f82 {H : Hp} {a b c : Int} : Aw EE 82 [.int .i64 a, .int .i64 b, .int .i64 c] H (.bool (A0 a b c)) := by
 refine Ag rfl rfl k82 (by simp [nV]) rfl fun m hw => ?_
 unfold A0
 simp only [go_sem, Nat.reduceEqDiff, reduceCtorEq, nV]
 refine Bf.intro (fun q => ?_) (fun q => ?_) <;> simp only [go_sem, Nat.reduceEqDiff, reduceCtorEq, q]
theorem Lf {m : Md} {draw : Bool} {s : St} {d : Option Nat} {ts : List Tk} {Q : Ex → St → Prop} {a b c : Int} (hw : Wr m s.H) :
  Cj EE m draw 82 (some [.int .i64 a, .int .i64 b, .int .i64 c]) s d ts Q = go EE m ts { s with ρ := Ah s.ρ d (.val (.bool (A0 a b c))) } Q := Bw f82 rfl hw
theorem f81 {H : Hp} {a : Int} : Aw EE 81 [.int .i64 a] H (.bool (A0 a (0) 100000)) := by
 refine Ag rfl rfl k81 (by simp [xI]) rfl fun m hw => ?_
 simp only [go_sem, Nat.reduceEqDiff, xI, Lf, hw]
theorem lF {m : Md} {draw : Bool} {s : St} {d : Option Nat} {ts : List Tk} {Q : Ex → St → Prop} {a : Int} (hw : Wr m s.H) :
  Cj EE m draw 81 (some [.int .i64 a]) s d ts Q = go EE m ts { s with ρ := Ah s.ρ d (.val (.bool (A0 a (0) 100000))) } Q := Bw f81 rfl hw
theorem sJ {H : Hp} {a : Int} : Aw EE 109 [.int .i64 a] H (.bool (A0 a (0) 1000000)) := by
 refine Ag rfl rfl rR (by simp [nH]) rfl fun m hw => ?_
 simp only [go_sem, Nat.reduceEqDiff, nH, Lf, hw]
theorem oM {m : Md} {draw : Bool} {s : St} {d : Option Nat} {ts : List Tk} {Q : Ex → St → Prop} {a : Int} (hw : Wr m s.H) :
  Cj EE m draw 109 (some [.int .i64 a]) s d ts Q = go EE m ts { s with ρ := Ah s.ρ d (.val (.bool (A0 a (0) 1000000))) } Q := Bw sJ rfl hw
theorem uC {H : Hp} {a : Int} : Aw EE 110 [.int .i64 a] H (.bool (A0 a (1) 1000000)) := by
 refine Ag rfl rfl xT (by simp [hC]) rfl fun m hw => ?_
 simp only [go_sem, Nat.reduceEqDiff, hC, Lf, hw]
theorem Wa {m : Md} {draw : Bool} {s : St} {d : Option Nat} {ts : List Tk} {Q : Ex → St → Prop} {a : Int} (hw : Wr m s.H) :
  Cj EE m draw 110 (some [.int .i64 a]) s d ts Q = go EE m ts { s with ρ := Ah s.ρ d (.val (.bool (A0 a (1) 1000000))) } Q := Bw uC rfl hw
theorem wP {H : Hp} {a : Int} : Aw EE 111 [.int .i64 a] H (.bool (A0 a (0) 5)) := by
 refine Ag rfl rfl yI (by simp [mW]) rfl fun m hw => ?_
 simp only [go_sem, Nat.reduceEqDiff, mW, Lf, hw]
theorem S4 {m : Md} {draw : Bool} {s : St} {d : Option Nat} {ts : List Tk} {Q : Ex → St → Prop} {a : Int} (hw : Wr m s.H) :
  Cj EE m draw 111 (some [.int .i64 a]) s d ts Q = go EE m ts { s with ρ := Ah s.ρ d (.val (.bool (A0 a (0) 5))) } Q := Bw wP rfl hw
theorem oW {H : Hp} {a : Int} : Aw EE 116 [.int .i64 a] H (.bool (A0 a (0) 2)) := by
 refine Ag rfl rfl Aaz (by simp [lQ]) rfl fun m hw => ?_
 simp only [go_sem, Nat.reduceEqDiff, lQ, Lf, hw]
theorem Vm {m : Md} {draw : Bool} {s : St} {d : Option Nat} {ts : List Tk} {Q : Ex → St → Prop} {a : Int} (hw : Wr m s.H) :
  Cj EE m draw 116 (some [.int .i64 a]) s d ts Q = go EE m ts { s with ρ := Ah s.ρ d (.val (.bool (A0 a (0) 2))) } Q := Bw oW rfl hw
theorem lE {H : Hp} {a : Int} : Aw EE 118 [.int .i64 a] H (.bool (A0 a (0) 2)) := by
 refine Ag rfl rfl Abd (by simp [gV]) rfl fun m hw => ?_
 simp only [go_sem, Nat.reduceEqDiff, gV, Lf, hw]
theorem aD {m : Md} {draw : Bool} {s : St} {d : Option Nat} {ts : List Tk} {Q : Ex → St → Prop} {a : Int} (hw : Wr m s.H) :
  Cj EE m draw 118 (some [.int .i64 a]) s d ts Q = go EE m ts { s with ρ := Ah s.ρ d (.val (.bool (A0 a (0) 2))) } Q := Bw lE rfl hw
theorem cW {H : Hp} {a : Int} : Aw EE 61 [.int .i64 a] H (.bool (A0 a 0 5)) := by
 refine Ag rfl rfl k61 (by simp [uR]) rfl fun m hw => ?_
 simp only [go_sem, uR]
 cases q : decide (a ≥ 0) <;> simp only [go_sem, Nat.reduceEqDiff, reduceCtorEq, q]
 ·rw [show A0 a 0 5 = false by unfold A0; rw [q]; rfl]
 ·rw [show A0 a 0 5 = decide (a < 6) by unfold A0; rw [q, Bool.true_and]; exact decide_eq_decide.2 (by omega)]
theorem Xy {m : Md} {draw : Bool} {s : St} {d : Option Nat} {ts : List Tk} {Q : Ex → St → Prop} {a : Int} (hw : Wr m s.H) :
  Cj EE m draw 61 (some [.int .i64 a]) s d ts Q = go EE m ts { s with ρ := Ah s.ρ d (.val (.bool (A0 a 0 5))) } Q := Bw cW rfl hw
def Qf (a : Int) : Bool := A0 a 0 2 || A0 a 10 12
theorem sW {H : Hp} {a : Int} : Aw EE 100 [.int .i64 a] H (.bool (Qf a)) := by
 refine Ag rfl rfl zW (by simp [iK]) rfl fun m hw => ?_
 simp only [go_sem, iK, Cu, hw]
 cases q : A0 a 0 2 <;> simp only [go_sem, Nat.reduceEqDiff, reduceCtorEq, q, Cu, hw]
 ·rw [show Qf a = A0 a 10 12 by unfold Qf; rw [q]; rfl]
 ·rw [show Qf a = true by unfold Qf; rw [q]; rfl]
theorem Yh {m : Md} {draw : Bool} {s : St} {d : Option Nat} {ts : List Tk} {Q : Ex → St → Prop} {a : Int} (hw : Wr m s.H) :
  Cj EE m draw 100 (some [.int .i64 a]) s d ts Q = go EE m ts { s with ρ := Ah s.ρ d (.val (.bool (Qf a))) } Q := Bw sW rfl hw
abbrev Re := Int × Int × Int
def E4 (x : Re) : Bool := A0 x.1 0 7 && (A0 x.2.1 0 255 && A0 x.2.2 0 100000)
theorem Rj {H : Hp} {x : Int × Int × Int} : Aw EE 101 [.agg #[.int .i64 x.1, .int .i64 x.2.1, .int .i64 x.2.2]] H (.bool (E4 x)) := by
 refine Ag rfl rfl vS (by simp [lJ]) rfl fun m hw => ?_
 simp only [go_sem, lJ, Cu, hw]
 cases q1 : A0 x.1 0 7 <;> simp only [go_sem, Nat.reduceEqDiff, reduceCtorEq, q1, Cu, hw]
 ·rw [show E4 x = false by unfold E4; rw [q1]; rfl]
 cases q2 : A0 x.2.1 0 255 <;> simp only [go_sem, Nat.reduceEqDiff, reduceCtorEq, q2, Cu, hw]
 ·rw [show E4 x = false by unfold E4; rw [q1, q2]; rfl]
 ·rw [show E4 x = A0 x.2.2 0 100000 by unfold E4; rw [q1, q2]; rfl]
theorem xC {H : Hp} {x : Int × Int × Int} : Aw EE 113 [.agg #[.int .i64 x.1, .int .i64 x.2.1, .int .i64 x.2.2]] H (.bool (E4 x)) := by
 refine Ag rfl rfl uM (by simp [mM]) rfl fun m hw => ?_
 simp only [go_sem, mM, Lf, hw]
 cases q1 : A0 x.1 0 7 <;> simp only [go_sem, Nat.reduceEqDiff, reduceCtorEq, q1, Lf, hw]
 ·rw [show E4 x = false by unfold E4; rw [q1]; rfl]
 cases q2 : A0 x.2.1 0 255 <;> simp only [go_sem, Nat.reduceEqDiff, reduceCtorEq, q2, lF, hw]
 ·rw [show E4 x = false by unfold E4; rw [q1, q2]; rfl]
 ·rw [show E4 x = A0 x.2.2 0 100000 by unfold E4; rw [q1, q2]; rfl]
def Hk (x : Re) : Bool := A0 x.1 0 5 && (A0 x.2.1 0 100000 && A0 x.2.2 0 1000000)
theorem cD {H : Hp} {x : Int × Int × Int} : Aw EE 102 [.agg #[.int .i64 x.1, .int .i64 x.2.1, .int .i64 x.2.2]] H (.bool (Hk x)) := by
 refine Ag rfl rfl tX (by simp [fX]) rfl fun m hw => ?_
 simp only [go_sem, Nat.reduceEqDiff, reduceCtorEq, fX, Xy, hw]
 cases q1 : A0 x.1 0 5 <;> simp only [go_sem, Nat.reduceEqDiff, reduceCtorEq, q1, Cu, hw]
 ·rw [show Hk x = false by unfold Hk; rw [q1]; rfl]
 cases q2 : A0 x.2.1 0 100000 <;> simp only [go_sem, Nat.reduceEqDiff, reduceCtorEq, q2, Cu, hw]
 ·rw [show Hk x = false by unfold Hk; rw [q1, q2]; rfl]
 ·rw [show Hk x = A0 x.2.2 0 1000000 by unfold Hk; rw [q1, q2]; rfl]
theorem vK {H : Hp} {x : Int × Int × Int} : Aw EE 114 [.agg #[.int .i64 x.1, .int .i64 x.2.1, .int .i64 x.2.2]] H (.bool (Hk x)) := by
 refine Ag rfl rfl sO (by simp [lU]) rfl fun m hw => ?_
 simp only [go_sem, Nat.reduceEqDiff, reduceCtorEq, lU, S4, hw]
 cases q1 : A0 x.1 0 5 <;> simp only [go_sem, Nat.reduceEqDiff, reduceCtorEq, q1, lF, hw]
 ·rw [show Hk x = false by unfold Hk; rw [q1]; rfl]
 cases q2 : A0 x.2.1 0 100000 <;> simp only [go_sem, Nat.reduceEqDiff, reduceCtorEq, q2, Lf, hw]
 ·rw [show Hk x = false by unfold Hk; rw [q1, q2]; rfl]
 ·rw [show Hk x = A0 x.2.2 0 1000000 by unfold Hk; rw [q1, q2]; rfl]
def X5 (a : Int) : Prop := -9223372036854775808 ≤ a ∧ a < 9223372036854775808
theorem Yq {a : Int} (h : X5 a) : A0 (IntKind.i64.wrap (a - 10)) 0 2 = A0 a 10 12 := by
 by_cases h2 : -9223372036854775808 ≤ a - 10
 ·rw [Ab _ h2 (by have := h.2; omega), Bool.eq_iff_iff, Bz, Bz]
  omega
 ·have e : IntKind.i64.wrap (a - 10) = a - 10 + 18446744073709551616 := by
   have h1 := h.1
   simp [IntKind.wrap, IntKind.bits, IntKind.signed]
   omega
  have h1 := h.1
  rw [e, Bool.eq_iff_iff, Bz, Bz]
  omega
theorem Aav {H : Hp} {a : Int} (h : X5 a) : Aw EE 112 [.int .i64 a] H (.bool (Qf a)) := by
 refine Ag rfl rfl zM (by simp [fS]) rfl fun m hw => ?_
 simp only [go_sem, Nat.reduceEqDiff, fS, Vm, hw]
 cases q : A0 a 0 2 <;> simp only [go_sem, Nat.reduceEqDiff, reduceCtorEq, q, aD, hw]
 ·rw [Yq h, show Qf a = A0 a 10 12 by unfold Qf; rw [q]; rfl]
 ·rw [show Qf a = true by unfold Qf; rw [q]; rfl]
def X1 {α : Type} (l : List α) (p : α → Bool) (n : Int) : Prop := (n = -1 ∧ ∀ a ∈ l, p a = false) ∨ ∃ i : Nat, ∃ h : i < l.length, n = i ∧ p l[i] = true ∧ ∀ a ∈ l.take i, p a = false
theorem X1.any {α : Type} {l : List α} {p : α → Bool} {n : Int} (h : X1 l p n) : decide (n ≥ 0) = l.any p := by
 rcases h with ⟨e, h⟩ | ⟨i, hi, e, h, _⟩
 ·rw [e, show l.any p = false from List.any_eq_false.2 fun a ha => by rw [h a ha]; simp]
  rfl
 ·rw [e, show l.any p = true from List.any_eq_true.2 ⟨_, List.getElem_mem hi, h⟩]
  exact decide_eq_true (by omega)
theorem Ek {α : Type} {l : List α} {p : α → Bool} {i : Nat} (hi : i < l.length) (h : ∀ a ∈ l.take i, p a = false) (h2 : p l[i] = false) : ∀ a ∈ l.take (i + 1), p a = false := fun a ha => by
 rw [List.take_succ_eq_append_getElem hi, List.mem_append, List.mem_singleton] at ha
 rcases ha with ha | ha
 ·exact h a ha
 ·subst ha; exact h2
abbrev Pr := Int × Int
def Ud (x : Pr) : List Value := [.int .i64 x.1, .int .i64 x.2]
abbrev bI (H : Hp) (v : Value) (l : List Pr) : Prop := Sl (En Ud) 2 H v l
def Kb (x y : Pr) : Bool := decide (x.1 = y.1) && decide (x.2 = y.2)
theorem fK {x y : Pr} : Kb x y = true ↔ x = y := by
 obtain ⟨a, b⟩ := x; obtain ⟨c, d⟩ := y
 simp [Kb]
theorem bP {H : Hp} {v : Value} {l : List Pr} {x : Pr} (hl : bI H v l) : Aw EE 139 [v, .agg #[.int .i64 x.1, .int .i64 x.2]] H (.bool (l.any (Kb · x))) := by
 refine Ag rfl rfl rV (by simp [lL]) rfl fun m hw => ?_
 have hroom := hl.room
 simp only [go_sem, Nat.reduceEqDiff, lL]
 refine Ak l.length (fun i s => s.H = H ∧ s.ρ 0 = .val v ∧ (∃ g, s.ρ 3 = .bx g [.int .i64 x.1, .int .i64 x.2]) ∧ s.ρ 5 = .val (.int .i64 i) ∧ ∀ a ∈ l.take i, Kb a x = false) (fun s => s.H = H ∧ ∀ a ∈ l, Kb a x = false) (by simp [Ah, Cb]) ?_ ?_
 ·rintro i s hi ⟨hH, k0, ⟨g, k3⟩, k5, hn⟩
  simp only [go_sem, Nat.reduceEqDiff, k0, k3, k5, hl.len]
  cases c1 : decide ((i : Int) < (l.length : Int)) <;> simp only [go_sem, Nat.reduceEqDiff, k0, k3, k5, c1]
  ·have : i = l.length := by have := Au c1; omega
   subst this
   rw [List.take_length] at hn
   exact ⟨hH, hn⟩
  have hil : i < l.length := by have := As c1; omega
  have w1 := Ab ((i : Int) + 1) (by omega) (by omega)
  obtain ⟨id, p, o, ho, hr, hp, hia⟩ := hl.elem (B7 hil)
  have hr : (o.drop p).take 2 = Ud l[i] := hr
  unfold Ud at hr
  have he : (decide (l[i].1 = x.1) && decide (l[i].2 = x.2)) = Kb l[i] x := rfl
  refine Af ?_
  simp only [go_sem, Nat.reduceEqDiff, k0, k3, k5, hia, hH, ho, hr, hp, he]
  refine ⟨by rfl, ?_⟩
  cases q2 : Kb l[i] x <;> simp only [go_sem, Nat.reduceEqDiff, reduceCtorEq, k0, k3, k5, q2, w1]
  ·exact ⟨hil, ⟨_, rfl⟩, by simp, Ek (p := fun a => Kb a x) hil hn q2⟩
  ·rw [show l.any (Kb · x) = true from List.any_eq_true.2 ⟨_, List.getElem_mem hil, q2⟩]
 ·rintro s ⟨hH, hn⟩
  simp only [go_sem, hH]
  rw [show l.any (Kb · x) = false from List.any_eq_false.2 fun a ha => by rw [hn a ha]; simp]
theorem sE {H : Hp} {v : Value} {l : List Pr} {x : Pr} (hl : bI H v l) : A4 EE 162 [v, .agg #[.int .i64 x.1, .int .i64 x.2]] H fun r => ∃ n : Int, r = .int .i64 n ∧ X1 l (Kb x ·) n := by
 refine Ar rfl rfl sP (by simp [nC]) fun m hw => ?_
 have hroom := hl.room
 simp only [go_sem, Nat.reduceEqDiff, nC, hl.len]
 refine Ak l.length (fun i s => s.H = H ∧ s.ρ 0 = .val v ∧ (∃ g, s.ρ 3 = .bx g [.int .i64 x.1, .int .i64 x.2]) ∧ s.ρ 7 = .val (.int .i64 l.length) ∧ s.ρ 8 = .val (.int .i64 i) ∧ ∀ a ∈ l.take i, Kb x a = false) (fun s => s.H = H ∧ ∀ a ∈ l, Kb x a = false) (by simp [Ah, Cb]) ?_ ?_
 ·rintro i s hi ⟨hH, k0, ⟨g, k3⟩, k7, k8, hn⟩
  simp only [go_sem, Nat.reduceEqDiff, k0, k3, k7, k8]
  cases c1 : decide ((i : Int) < (l.length : Int)) <;> simp only [go_sem, Nat.reduceEqDiff, k0, k3, k7, k8, c1]
  ·have : i = l.length := by have := Au c1; omega
   subst this
   rw [List.take_length] at hn
   exact ⟨hH, hn⟩
  have hil : i < l.length := by have := As c1; omega
  have w1 := Ab ((i : Int) + 1) (by omega) (by omega)
  obtain ⟨id, p, o, ho, hr, hp, hia⟩ := hl.elem (B7 hil)
  have hr : (o.drop p).take 2 = Ud l[i] := hr
  unfold Ud at hr
  have he : (decide (x.1 = l[i].1) && decide (x.2 = l[i].2)) = Kb x l[i] := rfl
  refine Af ?_
  simp only [go_sem, Nat.reduceEqDiff, k0, k3, k7, k8, hia, hH, ho, hr, hp, he]
  refine ⟨by rfl, ?_⟩
  cases q2 : Kb x l[i] <;> simp only [go_sem, Nat.reduceEqDiff, reduceCtorEq, k0, k3, k7, k8, q2, w1]
  ·exact ⟨hil, ⟨_, rfl⟩, by simp, Ek (p := fun a => Kb x a) hil hn q2⟩
  ·exact ⟨_, rfl, .inr ⟨i, hil, rfl, q2, hn⟩⟩
 ·rintro s ⟨hH, hn⟩
  simp only [go_sem, hH]
  exact ⟨-1, rfl, .inl ⟨rfl, hn⟩⟩
theorem uU {H : Hp} {v : Value} {l : List Pr} {x : Pr} (hl : bI H v l) : Aw EE 143 [v, .agg #[.int .i64 x.1, .int .i64 x.2]] H (.bool (l.any (Kb x ·))) := by
 refine Ag rfl rfl wJ (by simp [gZ]) rfl fun m hw => ?_
 simp only [go_sem, Nat.reduceEqDiff, gZ]
 refine Aa (fun m' h => sE hl m' h) rfl hw fun r H' ⟨⟨n, e, hn⟩, e2⟩ => ?_
 subst e; subst e2
 simp only [go_sem, hn.any]
def Vt (x : Re) : List Value := [.int .i64 x.1, .int .i64 x.2.1, .int .i64 x.2.2]
abbrev Hl (H : Hp) (v : Value) (l : List Re) : Prop := Sl (En Vt) 3 H v l
def G3 (x y : Re) : Bool := decide (x.1 = y.1) && (decide (x.2.1 = y.2.1) && decide (x.2.2 = y.2.2))
theorem Y3 {x y : Re} : G3 x y = true ↔ x = y := by
 obtain ⟨a, b, e⟩ := x; obtain ⟨c, d, f⟩ := y
 simp [G3]
theorem pC {H : Hp} {v : Value} {l : List Re} {x : Re} (hl : Hl H v l) : Aw EE 103 [v, .agg #[.int .i64 x.1, .int .i64 x.2.1, .int .i64 x.2.2]] H (.bool (l.any (G3 · x))) := by
 refine Ag rfl rfl Aat (by simp [lH]) rfl fun m hw => ?_
 have hroom := hl.room
 simp only [go_sem, Nat.reduceEqDiff, lH]
 refine Ak l.length (fun i s => s.H = H ∧ s.ρ 0 = .val v ∧ (∃ g, s.ρ 3 = .bx g [.int .i64 x.1, .int .i64 x.2.1, .int .i64 x.2.2]) ∧ s.ρ 5 = .val (.int .i64 i) ∧ ∀ a ∈ l.take i, G3 a x = false) (fun s => s.H = H ∧ ∀ a ∈ l, G3 a x = false) (by simp [Ah, Cb]) ?_ ?_
 ·rintro i s hi ⟨hH, k0, ⟨g, k3⟩, k5, hn⟩
  simp only [go_sem, Nat.reduceEqDiff, k0, k3, k5, hl.len]
  cases c1 : decide ((i : Int) < (l.length : Int)) <;> simp only [go_sem, Nat.reduceEqDiff, k0, k3, k5, c1]
  ·have : i = l.length := by have := Au c1; omega
   subst this
   rw [List.take_length] at hn
   exact ⟨hH, hn⟩
  have hil : i < l.length := by have := As c1; omega
  have w1 := Ab ((i : Int) + 1) (by omega) (by omega)
  obtain ⟨id, p, o, ho, hr, hp, hia⟩ := hl.elem (B7 hil)
  have hr : (o.drop p).take 3 = Vt l[i] := hr
  unfold Vt at hr
  have he : (decide (l[i].1 = x.1) && (decide (l[i].2.1 = x.2.1) && decide (l[i].2.2 = x.2.2))) = G3 l[i] x := rfl
  refine Af ?_
  simp only [go_sem, Nat.reduceEqDiff, k0, k3, k5, hia, hH, ho, hr, hp, he]
  refine ⟨by rfl, ?_⟩
  cases q2 : G3 l[i] x <;> simp only [go_sem, Nat.reduceEqDiff, reduceCtorEq, k0, k3, k5, q2, w1]
  ·exact ⟨hil, ⟨_, rfl⟩, by simp, Ek (p := fun a => G3 a x) hil hn q2⟩
  ·rw [show l.any (G3 · x) = true from List.any_eq_true.2 ⟨_, List.getElem_mem hil, q2⟩]
 ·rintro s ⟨hH, hn⟩
  simp only [go_sem, hH]
  rw [show l.any (G3 · x) = false from List.any_eq_false.2 fun a ha => by rw [hn a ha]; simp]
theorem wW {H : Hp} {v : Value} {l : List Re} {x : Re} (hl : Hl H v l) : A4 EE 141 [v, .agg #[.int .i64 x.1, .int .i64 x.2.1, .int .i64 x.2.2]] H fun r => ∃ n : Int, r = .int .i64 n ∧ X1 l (G3 x ·) n := by
 refine Ar rfl rfl vR (by simp [lV]) fun m hw => ?_
 have hroom := hl.room
 simp only [go_sem, Nat.reduceEqDiff, lV, hl.len]
 refine Ak l.length (fun i s => s.H = H ∧ s.ρ 0 = .val v ∧ (∃ g, s.ρ 3 = .bx g [.int .i64 x.1, .int .i64 x.2.1, .int .i64 x.2.2]) ∧ s.ρ 7 = .val (.int .i64 l.length) ∧ s.ρ 8 = .val (.int .i64 i) ∧ ∀ a ∈ l.take i, G3 x a = false) (fun s => s.H = H ∧ ∀ a ∈ l, G3 x a = false) (by simp [Ah, Cb]) ?_ ?_
 ·rintro i s hi ⟨hH, k0, ⟨g, k3⟩, k7, k8, hn⟩
  simp only [go_sem, Nat.reduceEqDiff, k0, k3, k7, k8]
  cases c1 : decide ((i : Int) < (l.length : Int)) <;> simp only [go_sem, Nat.reduceEqDiff, k0, k3, k7, k8, c1]
  ·have : i = l.length := by have := Au c1; omega
   subst this
   rw [List.take_length] at hn
   exact ⟨hH, hn⟩
  have hil : i < l.length := by have := As c1; omega
  have w1 := Ab ((i : Int) + 1) (by omega) (by omega)
  obtain ⟨id, p, o, ho, hr, hp, hia⟩ := hl.elem (B7 hil)
  have hr : (o.drop p).take 3 = Vt l[i] := hr
  unfold Vt at hr
  have he : (decide (x.1 = l[i].1) && (decide (x.2.1 = l[i].2.1) && decide (x.2.2 = l[i].2.2))) = G3 x l[i] := rfl
  refine Af ?_
  simp only [go_sem, Nat.reduceEqDiff, k0, k3, k7, k8, hia, hH, ho, hr, hp, he]
  refine ⟨by rfl, ?_⟩
  cases q2 : G3 x l[i] <;> simp only [go_sem, Nat.reduceEqDiff, reduceCtorEq, k0, k3, k7, k8, q2, w1]
  ·exact ⟨hil, ⟨_, rfl⟩, by simp, Ek (p := fun a => G3 x a) hil hn q2⟩
  ·exact ⟨_, rfl, .inr ⟨i, hil, rfl, q2, hn⟩⟩
 ·rintro s ⟨hH, hn⟩
  simp only [go_sem, hH]
  exact ⟨-1, rfl, .inl ⟨rfl, hn⟩⟩
theorem uJ {H : Hp} {v : Value} {l : List Re} {x : Re} (hl : Hl H v l) : Aw EE 115 [v, .agg #[.int .i64 x.1, .int .i64 x.2.1, .int .i64 x.2.2]] H (.bool (l.any (G3 x ·))) := by
 refine Ag rfl rfl vP (by simp [mR]) rfl fun m hw => ?_
 simp only [go_sem, Nat.reduceEqDiff, mR]
 refine Aa (fun m' h => wW hl m' h) rfl hw fun r H' ⟨⟨n, e, hn⟩, e2⟩ => ?_
 subst e; subst e2
 simp only [go_sem, hn.any]
def Kf (l : List Int) (most : Nat) (n : Int) : Bool := l.all (fun a => A0 a 0 (n - 1)) && decide (l.length ≤ most)
theorem fF {l : List Int} {most : Nat} {n : Int} {i : Nat} (h : i < l.length) (h2 : A0 l[i] 0 (n - 1) = false) : Kf l most n = false := by
 unfold Kf
 rw [List.all_eq_false.2 ⟨_, List.getElem_mem h, by simp only [h2]; simp⟩]
 rfl
theorem qU {H : Hp} {v : Value} {l : List Int} {most : Nat} {n : Int} (hl : Bu H v l) : Aw EE 62 [v, .int .i64 most, .int .i64 n] H (.bool (Kf l most n)) := by
 refine Ag rfl rfl k62 (by simp [c62]) rfl fun m hw => ?_
 have hroom := hl.room
 simp only [go_sem, Nat.reduceEqDiff, c62, hl.len]
 cases q0 : decide ((l.length : Int) > (most : Int)) <;> simp only [go_sem, Nat.reduceEqDiff, q0]
 rotate_left
 ·rw [show Kf l most n = false by unfold Kf; rw [decide_eq_false (show ¬ l.length ≤ most by have := As q0; omega), Bool.and_false]]
 have hle : l.length ≤ most := by have := Au q0; omega
 refine Ak l.length (fun i s => s.H = H ∧ s.ρ 0 = .val v ∧ s.ρ 2 = .val (.int .i64 n) ∧ s.ρ 7 = .val (.int .i64 i) ∧ ∀ a ∈ l.take i, (!A0 a 0 (n - 1)) = false)
  (fun s => s.H = H ∧ ∀ a ∈ l, (!A0 a 0 (n - 1)) = false) (by simp [Ah, Cb]) ?_ ?_
 ·rintro i s hi ⟨hH, k0, k2, k7, hn⟩
  simp only [go_sem, Nat.reduceEqDiff, k0, k2, k7, hl.len]
  cases c1 : decide ((i : Int) < (l.length : Int)) <;> simp only [go_sem, Nat.reduceEqDiff, k0, k2, k7, c1]
  ·have : i = l.length := by have := Au c1; omega
   subst this
   rw [List.take_length] at hn
   exact ⟨hH, hn⟩
  have hil : i < l.length := by have := As c1; omega
  have w1 := Ab ((i : Int) + 1) (by omega) (by omega)
  obtain ⟨id, q, o, ho, hr, hia⟩ := hl.int (B7 hil)
  simp only [go_sem, Nat.reduceEqDiff, k0, k2, k7, hia, hH, ho, hr]
  cases qa : decide (l[i] < 0) <;> simp only [go_sem, Nat.reduceEqDiff, reduceCtorEq, k0, k2, k7, hia, hH, ho, hr, qa]
  ·cases qb : decide (l[i] ≥ n) <;> simp only [go_sem, Nat.reduceEqDiff, k0, k2, k7, hH, qb, w1]
   ·have hin : A0 l[i] 0 (n - 1) = true := Bz.2 (by have := Au qa; have := Au qb; omega)
    exact ⟨hil, by simp, Ek (p := fun a => !A0 a 0 (n - 1)) hil hn (by simp only [hin]; rfl)⟩
   ·rw [fF hil (by
     cases h : A0 l[i] 0 (n - 1) with
     | false => rfl
     | true => have := Bz.1 h; have := As qb; omega)]
  ·rw [fF hil (by
    cases h : A0 l[i] 0 (n - 1) with
    | false => rfl
    | true => have := Bz.1 h; have := As qa; omega)]
 ·rintro s ⟨hH, hn⟩
  simp only [go_sem, hH]
  rw [show Kf l most n = true by unfold Kf; rw [decide_eq_true hle, Bool.and_true]; exact List.all_eq_true.2 fun a ha => by have := hn a ha; simpa using this]
theorem hY {H : Hp} {v : Value} {l : List Int} {most : Nat} {k : Nat} {caps : Array Value} {p : Int → Bool} (hl : Bu H v l) (hk : ∀ n, Aw EE k ([.int .i64 n] ++ caps.toList) H (.bool (p n))) :
  Aw EE 117 [v, .int .i64 most, .func (.func k) #[] caps] H (.bool (l.all p && decide (l.length ≤ most))) := by
 refine Ag rfl rfl yM (by simp [kK]) rfl fun m hw => ?_
 have hroom := hl.room
 simp only [go_sem, Nat.reduceEqDiff, kK, hl.len]
 refine Ak l.length (fun i s => s.H = H ∧ s.ρ 0 = .val v ∧ s.ρ 1 = .val (.int .i64 most) ∧ s.ρ 2 = .val (.func (.func k) #[] caps) ∧ s.ρ 9 = .val v ∧ s.ρ 10 = .val (.int .i64 l.length) ∧ s.ρ 11 = .val (.int .i64 i) ∧ (l.take i).all p = true)
  (fun s => s.H = H ∧ s.ρ 0 = .val v ∧ s.ρ 1 = .val (.int .i64 most) ∧ l.all p = true) (by simp [Ah, Cb]) ?_ ?_
 ·rintro i s hi ⟨hH, h0, h1, h2, h9, h10, h11, hn⟩
  simp only [go_sem, Nat.reduceEqDiff, h0, h1, h2, h9, h10, h11]
  refine Bf.intro (fun h3 => ?_) (fun h3 => ?_) <;> simp only [go_sem, Nat.reduceEqDiff, h0, h1, h2, h9, h10, h11]
  ·have h4 : i < l.length := by simpa using h3
   have hgi := B7 h4
   obtain ⟨id, q, o, ho, hr, hia⟩ := hl.int hgi
   have ak := Ax (hk l[i])
   simp only [List.singleton_append] at ak
   simp only [go_sem, Nat.reduceEqDiff, reduceCtorEq, h0, h1, h2, h9, h10, h11, hia, hH, ho, hr, ak, hw]
   refine Bf.intro (fun h5 => ?_) (fun h5 => ?_) <;> simp only [go_sem, Nat.reduceEqDiff, reduceCtorEq, h0, h1, h2, h9, h10, h11, Ab ((i : Int) + 1) (by omega) (by omega)]
   ·refine ⟨h4, by simp, ?_⟩
    rw [List.take_succ_eq_append_getElem h4, List.all_append, hn]
    simp [h5]
   ·have : l.all p = false := List.all_eq_false.2 ⟨_, List.getElem_mem h4, by simp [h5]⟩
    simp [this]
  ·have h4 : ¬ i < l.length := by simpa using h3
   rw [List.take_of_length_le (by omega)] at hn
   exact ⟨hH, hn⟩
 ·rintro s ⟨hH, h0, h1, hn⟩
  simp only [go_sem, Nat.reduceEqDiff, h0, h1, hH, hl.len, hn]
  simp
def Lp (x : Pr) : Bool := A0 x.1 0 2 && (A0 x.2 0 2 && !decide (x.1 = x.2))
def Oo (x : Pr) : Bool := A0 x.1 0 2 && A0 x.2 0 2
theorem tR {H : Hp} {x : Pr} : Aw EE 122 [.agg #[.int .i64 x.1, .int .i64 x.2]] H (.bool (Lp x)) := by
 refine Ag rfl rfl tP (by simp [lB]) rfl fun m hw => ?_
 simp only [go_sem, lB, aD, hw]
 cases q1 : A0 x.1 0 2 <;> simp only [go_sem, Nat.reduceEqDiff, reduceCtorEq, q1, aD, hw]
 ·rw [show Lp x = false by unfold Lp; rw [q1]; rfl]
 cases q2 : A0 x.2 0 2 <;> simp only [go_sem, Nat.reduceEqDiff, reduceCtorEq, q2]
 ·rw [show Lp x = false by unfold Lp; rw [q1, q2]; rfl]
 ·rw [show Lp x = !decide (x.1 = x.2) by unfold Lp; rw [q1, q2]; rfl]
theorem sT {H : Hp} {x : Pr} : Aw EE 123 [.agg #[.int .i64 x.1, .int .i64 x.2]] H (.bool (Oo x)) := by
 refine Ag rfl rfl sZ (by simp [lR]) rfl fun m hw => ?_
 simp only [go_sem, lR, Vm, hw]
 cases q1 : A0 x.1 0 2 <;> simp only [go_sem, Nat.reduceEqDiff, reduceCtorEq, q1, Vm, hw]
 ·rw [show Oo x = false by unfold Oo; rw [q1]; rfl]
 ·rw [show Oo x = A0 x.2 0 2 by unfold Oo; rw [q1]; rfl]
theorem uB {H : Hp} {v : Value} {l : List Int} (hl : Bu H v l) : A4 EE 125 [v] H fun r => ∃ b : Bool, r = .bool b ∧ (b = true ↔ ∀ i, (h : i + 1 < l.length) → l[i]'(by omega) < l[i + 1]) := by
 refine Ar rfl rfl Aaw (by simp [gB]) fun m hw => ?_
 have hroom := hl.room
 simp only [go_sem, Nat.reduceEqDiff, gB]
 refine Ak l.length (fun i s => s.H = H ∧ s.ρ 0 = .val v ∧ s.ρ 3 = .val (.int .i64 ((i + 1 : Nat) : Int)) ∧ i ≤ l.length ∧ ∀ k, (h : k + 1 < l.length) → k < i → l[k]'(by omega) < l[k + 1])
  (fun s => s.H = H ∧ ∀ k, (h : k + 1 < l.length) → l[k]'(by omega) < l[k + 1]) (by simp [Ah, Cb]) ?_ ?_
 ·rintro i s hi ⟨hH, k0, k3, hle, hr⟩
  simp only [go_sem, Nat.reduceEqDiff, k0, k3, hl.len]
  cases c1 : decide (((i + 1 : Nat) : Int) < (l.length : Int)) <;> simp only [go_sem, Nat.reduceEqDiff, k0, k3, c1]
  ·have := Au c1
   exact ⟨hH, fun k h => hr k h (by omega)⟩
  have hil : i + 1 < l.length := by have := As c1; omega
  have w1 : IntKind.i64.wrap (((i + 1 : Nat) : Int) + 1) = ((i + 1 + 1 : Nat) : Int) := by rw [Ab _ (by omega) (by omega)]; omega
  have wm : IntKind.i64.wrap (((i + 1 : Nat) : Int) - 1) = (i : Int) := by rw [Ab _ (by omega) (by omega)]; omega
  obtain ⟨id, q, o, ho, hg, hia⟩ := hl.int (B7 hil)
  obtain ⟨id2, q2, o2, ho2, hg2, hia2⟩ := hl.int (B7 (show i < l.length by omega))
  refine Af ?_
  simp only [go_sem, Nat.reduceEqDiff, reduceCtorEq, k0, k3, hia, hH, ho, hg, wm, hia2, ho2, hg2]
  refine ⟨by rfl, ?_⟩
  cases qc : decide (l[i] ≥ l[i + 1]) <;> simp only [go_sem, Nat.reduceEqDiff, k0, k3, hH, qc, w1]
  ·refine ⟨by omega, by omega, fun k h hk => ?_⟩
   by_cases e : k = i
   ·subst e; have := Au qc; omega
   ·exact hr k h (by omega)
  ·exact ⟨false, rfl, by simp, fun h => by have := h i hil; have := As qc; omega⟩
 ·rintro s ⟨hH, hp⟩
  simp only [go_sem, hH]
  exact ⟨true, rfl, fun _ => hp, fun _ => rfl⟩
abbrev Wt := Bool × Int × Int × Int
def Ig (x : Wt) : Bool := if x.1 = true then A0 x.2.1 0 1000000 && (A0 x.2.2.1 1 1000000 && A0 x.2.2.2 0 5) else decide (x.2.1 = 0) && (decide (x.2.2.1 = 0) && decide (x.2.2.2 = 0))
theorem fN {x : Wt} (h : x.1 = true) : Ig x = (A0 x.2.1 0 1000000 && (A0 x.2.2.1 1 1000000 && A0 x.2.2.2 0 5)) := by unfold Ig; rw [if_pos h]
theorem aF {x : Wt} (h : x.1 = false) : Ig x = (decide (x.2.1 = 0) && (decide (x.2.2.1 = 0) && decide (x.2.2.2 = 0))) := by unfold Ig; rw [if_neg (by rw [h]; simp)]
theorem f58 {H : Hp} {x : Wt} : Aw EE 58 [.agg #[.bool x.1, .int .i64 x.2.1, .int .i64 x.2.2.1, .int .i64 x.2.2.2]] H (.bool (Ig x)) := by
 refine Ag rfl rfl k58 (by simp [yT]) rfl fun m hw => ?_
 simp only [go_sem, Nat.reduceEqDiff, reduceCtorEq, yT]
 cases q0 : x.1
 ·simp only [go_sem, Nat.reduceEqDiff, reduceCtorEq, q0, Fb, B5, Ba, Dv]
  rw [aF q0]
  try simp
 ·have ho := fN q0
  simp only [go_sem, Nat.reduceEqDiff, reduceCtorEq, q0, Cu, hw]
  cases q1 : A0 x.2.1 0 1000000 <;> simp only [go_sem, Nat.reduceEqDiff, reduceCtorEq, q1, Cu, hw]
  ·rw [ho, q1]; rfl
  cases q2 : A0 x.2.2.1 1 1000000 <;> simp only [go_sem, Nat.reduceEqDiff, reduceCtorEq, q2, Xy, hw]
  ·rw [ho, q1, q2]; rfl
  ·rw [ho, q1, q2]; rfl
theorem f73 {H : Hp} {x : Wt} : Aw EE 73 [.agg #[.bool x.1, .int .i64 x.2.1, .int .i64 x.2.2.1, .int .i64 x.2.2.2]] H (.bool (Ig x)) := by
 refine Ag rfl rfl k73 (by simp [c73]) rfl fun m hw => ?_
 simp only [go_sem, Nat.reduceEqDiff, reduceCtorEq, c73]
 cases q0 : x.1
 ·simp only [go_sem, Nat.reduceEqDiff, reduceCtorEq, q0, Fb, B5, Ba, Dv]
  rw [aF q0]
  try simp
 ·have ho := fN q0
  simp only [go_sem, Nat.reduceEqDiff, reduceCtorEq, q0, oM, hw]
  cases q1 : A0 x.2.1 0 1000000 <;> simp only [go_sem, Nat.reduceEqDiff, reduceCtorEq, q1, Wa, hw]
  ·rw [ho, q1]; rfl
  cases q2 : A0 x.2.2.1 1 1000000 <;> simp only [go_sem, Nat.reduceEqDiff, reduceCtorEq, q2, S4, hw]
  ·rw [ho, q1, q2]; rfl
  ·rw [ho, q1, q2]; rfl
def eS (b : ByteArray) : List Value := [.string b]
abbrev Dz (H : Hp) (v : Value) (l : List ByteArray) : Prop := Sl (En eS) 1 H v l
theorem Sl.str {H : Hp} {v : Value} {l : List ByteArray} (h : Dz H v l) {i : Nat} {a : ByteArray} (hi : l[i]? = some a) : ∃ id p o, H[id]? = some o ∧ o[p]? = some (.string a) ∧
  ∀ (s : St) (x y : X), Av s.ρ x = some v → Av s.ρ y = some (.int .i64 i) → B4 s 1 x y = some (.val (.pointer (some ⟨id, p, some o.length⟩)), s) := by
 obtain ⟨id, p, o, ho, hr, hp, hia⟩ := h.elem hi
 unfold En at hr
 exact ⟨id, p, o, ho, by simpa [eS] using Al hr (j := 0) (by omega), hia⟩
theorem f98 {H : Hp} {v : Value} {l : List ByteArray} {h : ByteArray} (hl : Dz H v l) : Aw EE 98 [v, .string h] H (.bool (l.any fun a => decide (a = h))) := by
 refine Ag rfl rfl k98 (by simp [c98]) rfl fun m hw => ?_
 have hroom := hl.room
 simp only [go_sem, Nat.reduceEqDiff, c98]
 refine Ak l.length (fun i s => s.H = H ∧ s.ρ 0 = .val v ∧ s.ρ 1 = .val (.string h) ∧ s.ρ 5 = .val (.int .i64 i) ∧ ∀ a ∈ l.take i, decide (a = h) = false) (fun s => s.H = H ∧ ∀ a ∈ l, decide (a = h) = false) (by simp [Ah, Cb]) ?_ ?_
 ·rintro i s hi ⟨hH, h0, h3, h5, hn⟩
  simp only [go_sem, Nat.reduceEqDiff, h0, h3, h5, hl.len]
  cases c1 : decide ((i : Int) < (l.length : Int)) <;> simp only [go_sem, Nat.reduceEqDiff, h0, h3, h5, c1]
  ·have : i = l.length := by have := Au c1; omega
   subst this
   rw [List.take_length] at hn
   exact ⟨hH, hn⟩
  have h2 : i < l.length := by have := As c1; omega
  have w1 := Ab ((i : Int) + 1) (by omega) (by omega)
  obtain ⟨id, p, o, ho, hr, hia⟩ := hl.str (B7 h2)
  simp only [go_sem, Nat.reduceEqDiff, h0, h3, h5, hia, hH, ho, hr]
  cases q : decide (l[i] = h) <;> simp only [go_sem, Nat.reduceEqDiff, reduceCtorEq, h0, h3, h5, q, w1]
  ·exact ⟨h2, by simp, Ek (p := fun a => decide (a = h)) h2 hn q⟩
  ·rw [show (l.any fun a => decide (a = h)) = true from List.any_eq_true.2 ⟨_, List.getElem_mem h2, q⟩]
 ·rintro s ⟨hH, hn⟩
  simp only [go_sem, hH]
  rw [show (l.any fun a => decide (a = h)) = false from List.any_eq_false.2 fun a ha => by rw [hn a ha]; simp]
theorem xP {H : Hp} {v : Value} {l : List ByteArray} {h : ByteArray} (hl : Dz H v l) : A4 EE 144 [v, .string h] H fun r => ∃ n : Int, r = .int .i64 n ∧ X1 l (fun y => decide (h = y)) n := by
 refine Ar rfl rfl uA (by simp [lY]) fun m hw => ?_
 have hroom := hl.room
 simp only [go_sem, Nat.reduceEqDiff, lY, hl.len]
 refine Ak l.length (fun i s => s.H = H ∧ s.ρ 0 = .val v ∧ s.ρ 1 = .val (.string h) ∧ s.ρ 7 = .val (.int .i64 l.length) ∧ s.ρ 8 = .val (.int .i64 i) ∧ ∀ a ∈ l.take i, decide (h = a) = false) (fun s => s.H = H ∧ ∀ a ∈ l, decide (h = a) = false) (by simp [Ah, Cb]) ?_ ?_
 ·rintro i s hi ⟨hH, k0, k1, k7, k8, hn⟩
  simp only [go_sem, Nat.reduceEqDiff, k0, k1, k7, k8]
  cases c1 : decide ((i : Int) < (l.length : Int)) <;> simp only [go_sem, Nat.reduceEqDiff, k0, k1, k7, k8, c1]
  ·have : i = l.length := by have := Au c1; omega
   subst this
   rw [List.take_length] at hn
   exact ⟨hH, hn⟩
  have hil : i < l.length := by have := As c1; omega
  have w1 := Ab ((i : Int) + 1) (by omega) (by omega)
  obtain ⟨id, p, o, ho, hr, hia⟩ := hl.str (B7 hil)
  simp only [go_sem, Nat.reduceEqDiff, k0, k1, k7, k8, hia, hH, ho, hr]
  cases q2 : decide (h = l[i]) <;> simp only [go_sem, Nat.reduceEqDiff, reduceCtorEq, k0, k1, k7, k8, q2, w1]
  ·exact ⟨hil, by simp, Ek (p := fun a => decide (h = a)) hil hn q2⟩
  ·exact ⟨_, rfl, .inr ⟨i, hil, rfl, q2, hn⟩⟩
 ·rintro s ⟨hH, hn⟩
  simp only [go_sem, hH]
  exact ⟨-1, rfl, .inl ⟨rfl, hn⟩⟩
theorem Abt {H : Hp} {v : Value} {l : List ByteArray} {h : ByteArray} (hl : Dz H v l) : Aw EE 124 [v, .string h] H (.bool (l.any fun y => decide (h = y))) := by
 refine Ag rfl rfl yE (by simp [mD]) rfl fun m hw => ?_
 simp only [go_sem, Nat.reduceEqDiff, mD]
 refine Aa (fun m' h => xP hl m' h) rfl hw fun r H' ⟨⟨n, e, hn⟩, e2⟩ => ?_
 subst e; subst e2
 simp only [go_sem, hn.any]
section
open K
def gX : CF := ({ b := _ } : V (α := CF) ⟨25,Q [R [c 2 (.string ⟨#[]⟩)],Q [R [m 4 0,E 5 48 [.t 4,i 0,i 562949953421311],u 6 5],J 6 (Q [R [c 2 (.string ⟨#[]⟩)],.ret])],R [k 7 (.mkO 0 1 y10 []),m 3 7],F 0 (Q [Q [R [m 8 0,B 9 .geq 8 128],U 9 (.exit 0)],.block 1 (Q [R [m 10 3,m 11 0,B 12 .rem 11 128,k 13 (.bin .add (i 128) (.t 12)),k 14 (.toInt .u8 (.t 13)),k 15 (.mkV 1 1 y10 [(0,.t 14)]),k 16 (.app 1 1 (.t 10) (.t 15)),m 3 16],R [m 17 0,B 18 .quo 17 128,m 0 18]])]),R [m 19 3,m 20 0,k 21 (.toInt .u8 (.t 20)),k 22 (.mkV 1 1 y10 [(0,.t 21)]),k 23 (.app 1 1 (.t 19) (.t 22)),k 24 (.b2s (.t 23)),m 2 24],.ret],[.t 2]⟩).b
theorem wY : EE.fns 160 = some gX := by kernel_rfl
def gU : CF := ({ b := _ } : V (α := CF) ⟨25,Q [R [c 2 (.string ⟨#[]⟩)],Q [R [m 4 0,E 5 82 [.t 4,i 0,i 562949953421311],u 6 5],J 6 (Q [R [c 2 (.string ⟨#[]⟩)],.ret])],R [k 7 (.mkO 0 1 y10 []),m 3 7],F 0 (Q [Q [R [m 8 0,B 9 .gtr 8 127],U 9 (.exit 0)],.block 1 (Q [R [m 10 3,m 11 0,B 12 .and 11 127,B 13 .or 12 128,k 14 (.toInt .u8 (.t 13)),k 15 (.mkV 1 1 y10 [(0,.t 14)]),k 16 (.app 1 1 (.t 10) (.t 15)),m 3 16],R [m 17 0,k 18 (.bin .shr (.t 17) (.c (.int .u64 7))),m 0 18]])]),R [m 19 3,m 20 0,k 21 (.toInt .u8 (.t 20)),k 22 (.mkV 1 1 y10 [(0,.t 21)]),k 23 (.app 1 1 (.t 19) (.t 22)),k 24 (.b2s (.t 23)),m 2 24],.ret],[.t 2]⟩).b
theorem sQ : EE.fns 172 = some gU := by kernel_rfl
end
theorem Yd {m : Md} {draw : Bool} {s : St} {d : Option Nat} {ts : List Tk} {Q : Ex → St → Prop} {a b c : Int} (hw : Wr m s.H) :
  Cj EE m draw 48 (some [.int .i64 a, .int .i64 b, .int .i64 c]) s d ts Q = go EE m ts { s with ρ := Ah s.ρ d (.val (.bool (decide (a ≥ b) && decide (a ≤ c)))) } Q := Cu hw
theorem cZ {m : Md} {draw : Bool} {s : St} {d : Option Nat} {ts : List Tk} {Q : Ex → St → Prop} {a b c : Int} (hw : Wr m s.H) :
  Cj EE m draw 82 (some [.int .i64 a, .int .i64 b, .int .i64 c]) s d ts Q = go EE m ts { s with ρ := Ah s.ρ d (.val (.bool (decide (a ≥ b) && decide (a ≤ c)))) } Q := Lf hw
theorem Ri {n : Int} (h : (decide (n ≥ 0) && decide (n ≤ 562949953421311)) = true) : 0 ≤ n ∧ n ≤ 562949953421311 := by simpa using h
theorem Oe {n : Int} (h : (decide (n ≥ 0) && decide (n ≤ 562949953421311)) = false) : Bx n = ⟨#[]⟩ := by
 unfold Bx
 rw [if_neg (fun h2 => by simp at h; omega)]
 rfl
theorem Ty : ¬ ((128 : Int) = 0) := by decide
theorem Us {H : Hp} {n : Int} : Aw EE 160 [.int .i64 n] H (.string (Bx n)) := by
 refine Ag rfl rfl wY (by simp [gX]) rfl fun m hw => ?_
 simp only [go_sem, Nat.reduceEqDiff, gX, Yd, hw, Ba]
 refine Bf.intro (fun h => ?_) (fun h => ?_) <;> simp only [go_sem, Nat.reduceEqDiff, Ba]
 rotate_left
 ·rw [Oe h]
 obtain ⟨h0, h1⟩ := Ri h
 obtain ⟨k, rfl⟩ : ∃ k : Nat, n = k := ⟨n.toNat, by omega⟩
 have hV : Bx (k : Int) = Bo (Cv k) := by unfold Bx; rw [if_pos ⟨h0, h1⟩]; rfl
 have h7 : (128 : Nat) ^ (6 + 1) = 562949953421312 := by decide
 have hlen := Ht 6 k (by omega)
 rw [hV]
 refine Fq (fun j s => H <+: s.H ∧ s.ρ 0 = .val (.int .i64 j) ∧ j ≤ k ∧ ∃ wv l, s.ρ 3 = .val wv ∧ My s.H wv l ∧ Ao H.length wv ∧ l ++ Cv j = Cv k)
  (fun s => H <+: s.H ∧ ∃ (j : Nat) (wv : Value) (l : List Nat), s.ρ 0 = .val (.int .i64 j) ∧ j < 128 ∧ s.ρ 3 = .val wv ∧ My s.H wv l ∧ Ao H.length wv ∧ l ++ [j] = Cv k) k ?_ ?_ ?_
 ·exact ⟨Eg, by simp [Ah, Cb], Nat.le_refl _, _, [], by simp [Ah], Jk, .inr ⟨_, _, _, _, rfl, Nat.le_refl _⟩, rfl⟩
 ·rintro j s ⟨hH, h0', hj, wv, l, h3, hs, ho, hl⟩
  simp only [go_sem, Nat.reduceEqDiff, h0', h3]
  refine Bf.intro (fun q1 => ?_) (fun q1 => ?_) <;> simp only [go_sem, Nat.reduceEqDiff, h0', h3]
  ·have q2 : ¬ j < 128 := by have := As q1; omega
   have hll := congrArg List.length hl
   have hp := G7 j
   rw [List.length_append] at hll
   obtain ⟨v2, H2, e1, e2, e3, e4, e5, e6, e7⟩ := hs.oneN (m := m) (j % 128 + 128) ho hH.length_le hw (by omega)
   have t1 : Int.tmod (j : Int) 128 = ((j % 128 : Nat) : Int) := rfl
   have t2 : Int.tdiv (j : Int) 128 = ((j / 128 : Nat) : Int) := rfl
   have t3 : IntKind.u8.wrap (128 + ((j % 128 : Nat) : Int)) = ((j % 128 + 128 : Nat) : Int) := by rw [Lj _ (by omega) (by omega)]; omega
   simp only [go_sem, Nat.reduceEqDiff, h0', h3, Ty, t1, t2, Ab (128 + ((j % 128 : Nat) : Int)) (by omega) (by omega), t3]
   rw [e1]
   rotate_left
   ·rfl
   ·rfl
   ·rfl
   simp only [go_sem, Nat.reduceEqDiff, h0', h3, Ty, t1, t2, Ab (((j / 128 : Nat) : Int)) (by omega) (by omega)]
   refine ⟨j / 128, by omega, e7 H (Nat.le_refl _) hH, rfl, by omega, v2, _, rfl, e2, e3, ?_⟩
   rw [List.append_assoc, List.singleton_append, ← Ib q2]
   exact hl
  ·have q2 : j < 128 := by have := Au q1; omega
   rw [Hh q2] at hl
   exact ⟨hH, j, wv, l, rfl, q2, rfl, hs, ho, hl⟩
 ·rintro s ⟨hH, j, wv, l, h0', hj, h3, hs, ho, hl⟩
  have hll := congrArg List.length hl
  rw [List.length_append] at hll
  obtain ⟨v2, H2, e1, e2, e3, e4, e5, e6, e7⟩ := hs.oneN (m := m) j ho hH.length_le hw (by simp at hll; omega)
  have hb := e2.b2s (fun x hx => by
   rw [hl] at hx
   obtain ⟨i, hi⟩ := List.getElem?_of_mem hx
   exact (Fp k i x hi).1)
  simp only [go_sem, Nat.reduceEqDiff, h0', h3, Lj (j : Int) (by omega) (by omega)]
  rw [e1]
  rotate_left
  ·rfl
  ·rfl
  ·rfl
  simp only [go_sem]
  rw [hb]
  rotate_left
  ·rfl
  ·rfl
  simp only [go_sem, hl]
  exact Fz (e7 H (Nat.le_refl _) hH)
theorem Abc {H : Hp} {n : Int} : Aw EE 172 [.int .i64 n] H (.string (Bx n)) := by
 refine Ag rfl rfl sQ (by simp [gU]) rfl fun m hw => ?_
 simp only [go_sem, Nat.reduceEqDiff, gU, cZ, hw, Ba]
 refine Bf.intro (fun h => ?_) (fun h => ?_) <;> simp only [Gt, Gy, E2, Gs, E6, F6, Dk, Ha, Jo, O2, Ix, Oc, Iq, O0, C0, Option.isSome_some, Nat.le_refl, Er, O5, O9, Db, Dp, Dt, E5, Dl, Cz, Ep, Dg, Jc, Es, Ua, Ai, Ka, Rk, ex, Av, Dw, Dr, Dj, Cb, St.val, J4, Hc, Bd, Gc, Ub, Ui, J8, beq_true, beq_false, if_true, if_false, List.getElem?_cons_zero, List.getElem?_cons_succ, ↓reduceIte, Nat.reduceEqDiff, reduceCtorEq, Fe, Jz, B6, Ad.fv, Ad.live, Ge, List.length_cons, List.length_nil, List.drop_zero, List.drop_succ_cons, List.take_succ_cons, List.take_zero, Nat.reduceAdd, Nat.reduceLeDiff, Nat.zero_add, Nat.add_zero, J6, Gj, Ij, F9, Eh, Nm, Gm, Gn, Et, G5, G0, Iz, Jd, C5, Bv, List.reverse_cons, List.reverse_nil, List.nil_append, List.cons_append, Kd, Bool.and_true, Bool.true_and, Bool.not_true, Bool.not_false, D5, Fd, Mr, true_and, and_true, D6, Ey, Iy, Jm, Jl, I4, Jf, I9, Iv, I8, Iu, Dm, Cx, Dn, Bi, implies_true, Bool.and_self, Ds, B3, Cw, Bs, Cd, Cg, Cy, Df, De, List.take_length, decide_true, decide_false, Option.some.injEq, Value.bool.injEq, Value.int.injEq, Bool.false_and, Bool.and_false, not_false_eq_true, not_true_eq_false, D4, List.length_set, Nat.reduceMul, Bool.not_eq_true, Bool.not_eq_false, List.all_cons, List.all_nil, Fb, Ba, B5, Ke, Gd, Uf, Ff, List.size_toArray, List.append_nil, List.singleton_append, Fy, D3, Bi, List.isEmpty_nil, List.isEmpty_cons, J5, I2, B8, E0, C7, Ew, E3, Dv, List.map_cons, List.map_nil, Ba]
 rotate_left
 ·rw [Oe h]
 obtain ⟨h0, h1⟩ := Ri h
 obtain ⟨k, rfl⟩ : ∃ k : Nat, n = k := ⟨n.toNat, by omega⟩
 have hV : Bx (k : Int) = Bo (Cv k) := by unfold Bx; rw [if_pos ⟨h0, h1⟩]; rfl
 have h7 : (128 : Nat) ^ (6 + 1) = 562949953421312 := by decide
 have hlen := Ht 6 k (by omega)
 rw [hV]
 refine Fq (fun j s => H <+: s.H ∧ s.ρ 0 = .val (.int .i64 j) ∧ j ≤ k ∧ ∃ wv l, s.ρ 3 = .val wv ∧ My s.H wv l ∧ Ao H.length wv ∧ l ++ Cv j = Cv k)
  (fun s => H <+: s.H ∧ ∃ (j : Nat) (wv : Value) (l : List Nat), s.ρ 0 = .val (.int .i64 j) ∧ j < 128 ∧ s.ρ 3 = .val wv ∧ My s.H wv l ∧ Ao H.length wv ∧ l ++ [j] = Cv k) k ?_ ?_ ?_
 ·exact ⟨Eg, by simp [Ah, Cb], Nat.le_refl _, _, [], by simp [Ah], Jk, .inr ⟨_, _, _, _, rfl, Nat.le_refl _⟩, rfl⟩
 ·rintro j s ⟨hH, h0', hj, wv, l, h3, hs, ho, hl⟩
  simp only [Gt, Gy, E2, Gs, E6, F6, Dk, Ha, Jo, O2, Ix, Oc, Iq, O0, C0, Option.isSome_some, Nat.le_refl, Er, O5, O9, Db, Dp, Dt, E5, Dl, Cz, Ep, Dg, Jc, Es, Ua, Ai, Ka, Rk, ex, Av, Dw, Dr, Dj, Cb, St.val, J4, Hc, Bd, Gc, Ub, Ui, J8, beq_true, beq_false, if_true, if_false, List.getElem?_cons_zero, List.getElem?_cons_succ, ↓reduceIte, Nat.reduceEqDiff, reduceCtorEq, Fe, Jz, B6, Ad.fv, Ad.live, Ge, List.length_cons, List.length_nil, List.drop_zero, List.drop_succ_cons, List.take_succ_cons, List.take_zero, Nat.reduceAdd, Nat.reduceLeDiff, Nat.zero_add, Nat.add_zero, J6, Gj, Ij, F9, Eh, Nm, Gm, Gn, Et, G5, G0, Iz, Jd, C5, Bv, List.reverse_cons, List.reverse_nil, List.nil_append, List.cons_append, Kd, Bool.and_true, Bool.true_and, Bool.not_true, Bool.not_false, D5, Fd, Mr, true_and, and_true, D6, Ey, Iy, Jm, Jl, I4, Jf, I9, Iv, I8, Iu, Dm, Cx, Dn, Bi, implies_true, Bool.and_self, Ds, B3, Cw, Bs, Cd, Cg, Cy, Df, De, List.take_length, decide_true, decide_false, Option.some.injEq, Value.bool.injEq, Value.int.injEq, Bool.false_and, Bool.and_false, not_false_eq_true, not_true_eq_false, D4, List.length_set, Nat.reduceMul, Bool.not_eq_true, Bool.not_eq_false, List.all_cons, List.all_nil, Fb, Ba, B5, Ke, Gd, Uf, Ff, List.size_toArray, List.append_nil, List.singleton_append, Fy, D3, Bi, List.isEmpty_nil, List.isEmpty_cons, J5, I2, B8, E0, C7, Ew, E3, Dv, List.map_cons, List.map_nil, h0', h3]
  refine Bf.intro (fun q1 => ?_) (fun q1 => ?_) <;> simp only [Gt, Gy, E2, Gs, E6, F6, Dk, Ha, Jo, O2, Ix, Oc, Iq, O0, C0, Option.isSome_some, Nat.le_refl, Er, O5, O9, Db, Dp, Dt, E5, Dl, Cz, Ep, Dg, Jc, Es, Ua, Ai, Ka, Rk, ex, Av, Dw, Dr, Dj, Cb, St.val, J4, Hc, Bd, Gc, Ub, Ui, J8, beq_true, beq_false, if_true, if_false, List.getElem?_cons_zero, List.getElem?_cons_succ, ↓reduceIte, Nat.reduceEqDiff, reduceCtorEq, Fe, Jz, B6, Ad.fv, Ad.live, Ge, List.length_cons, List.length_nil, List.drop_zero, List.drop_succ_cons, List.take_succ_cons, List.take_zero, Nat.reduceAdd, Nat.reduceLeDiff, Nat.zero_add, Nat.add_zero, J6, Gj, Ij, F9, Eh, Nm, Gm, Gn, Et, G5, G0, Iz, Jd, C5, Bv, List.reverse_cons, List.reverse_nil, List.nil_append, List.cons_append, Kd, Bool.and_true, Bool.true_and, Bool.not_true, Bool.not_false, D5, Fd, Mr, true_and, and_true, D6, Ey, Iy, Jm, Jl, I4, Jf, I9, Iv, I8, Iu, Dm, Cx, Dn, Bi, implies_true, Bool.and_self, Ds, B3, Cw, Bs, Cd, Cg, Cy, Df, De, List.take_length, decide_true, decide_false, Option.some.injEq, Value.bool.injEq, Value.int.injEq, Bool.false_and, Bool.and_false, not_false_eq_true, not_true_eq_false, D4, List.length_set, Nat.reduceMul, Bool.not_eq_true, Bool.not_eq_false, List.all_cons, List.all_nil, Fb, Ba, B5, Ke, Gd, Uf, Ff, List.size_toArray, List.append_nil, List.singleton_append, Fy, D3, Bi, List.isEmpty_nil, List.isEmpty_cons, J5, I2, B8, E0, C7, Ew, E3, Dv, List.map_cons, List.map_nil, h0', h3]
  ·have q2 : ¬ j < 128 := by have := As q1; omega
   have hll := congrArg List.length hl
   have hp := G7 j
   rw [List.length_append] at hll
   obtain ⟨v2, H2, e1, e2, e3, e4, e5, e6, e7⟩ := hs.oneN (m := m) (j % 128 + 128) ho hH.length_le hw (by omega)
   have t1 := xZ (k := j) (by omega)
   have t2 : Int.fdiv (j : Int) (2 ^ (min (Int.toNat 7) IntKind.i64.bits)) = ((j / 128 : Nat) : Int) := by rw [show (2 : Int) ^ (min (Int.toNat 7) IntKind.i64.bits) = 128 by decide, Int.fdiv_eq_ediv_of_nonneg _ (by decide)]; omega
   have t3 := pY (k := j % 128) (by omega)
   have t4 : IntKind.u8.wrap (((j % 128 + 128 : Nat) : Int)) = ((j % 128 + 128 : Nat) : Int) := Lj _ (by omega) (by omega)
   simp only [Gt, Gy, E2, Gs, E6, F6, Dk, Ha, Jo, O2, Ix, Oc, Iq, O0, C0, Option.isSome_some, Nat.le_refl, Er, O5, O9, Db, Dp, Dt, E5, Dl, Cz, Ep, Dg, Jc, Es, Ua, Ai, Ka, Rk, ex, Av, Dw, Dr, Dj, Cb, St.val, J4, Hc, Bd, Gc, Ub, Ui, J8, beq_true, beq_false, if_true, if_false, List.getElem?_cons_zero, List.getElem?_cons_succ, ↓reduceIte, Nat.reduceEqDiff, reduceCtorEq, Fe, Jz, B6, Ad.fv, Ad.live, Ge, List.length_cons, List.length_nil, List.drop_zero, List.drop_succ_cons, List.take_succ_cons, List.take_zero, Nat.reduceAdd, Nat.reduceLeDiff, Nat.zero_add, Nat.add_zero, J6, Gj, Ij, F9, Eh, Nm, Gm, Gn, Et, G5, G0, Iz, Jd, C5, Bv, List.reverse_cons, List.reverse_nil, List.nil_append, List.cons_append, Kd, Bool.and_true, Bool.true_and, Bool.not_true, Bool.not_false, D5, Fd, Mr, true_and, and_true, D6, Ey, Iy, Jm, Jl, I4, Jf, I9, Iv, I8, Iu, Dm, Cx, Dn, Bi, implies_true, Bool.and_self, Ds, B3, Cw, Bs, Cd, Cg, Cy, Df, De, List.take_length, decide_true, decide_false, Option.some.injEq, Value.bool.injEq, Value.int.injEq, Bool.false_and, Bool.and_false, not_false_eq_true, not_true_eq_false, D4, List.length_set, Nat.reduceMul, Bool.not_eq_true, Bool.not_eq_false, List.all_cons, List.all_nil, Fb, Ba, B5, Ke, Gd, Uf, Ff, List.size_toArray, List.append_nil, List.singleton_append, Fy, D3, Bi, List.isEmpty_nil, List.isEmpty_cons, J5, I2, B8, E0, C7, Ew, E3, Dv, List.map_cons, List.map_nil, h0', h3, t1, t3, t4]
   rw [e1]
   rotate_left
   ·rfl
   ·rfl
   ·rfl
   simp only [Gt, Gy, E2, Gs, E6, F6, Dk, Ha, Jo, O2, Ix, Oc, Iq, O0, C0, Option.isSome_some, Nat.le_refl, Er, O5, O9, Db, Dp, Dt, E5, Dl, Cz, Ep, Dg, Jc, Es, Ua, Ai, Ka, Rk, ex, Av, Dw, Dr, Dj, Cb, St.val, J4, Hc, Bd, Gc, Ub, Ui, J8, beq_true, beq_false, if_true, if_false, List.getElem?_cons_zero, List.getElem?_cons_succ, ↓reduceIte, Nat.reduceEqDiff, reduceCtorEq, Fe, Jz, B6, Ad.fv, Ad.live, Ge, List.length_cons, List.length_nil, List.drop_zero, List.drop_succ_cons, List.take_succ_cons, List.take_zero, Nat.reduceAdd, Nat.reduceLeDiff, Nat.zero_add, Nat.add_zero, J6, Gj, Ij, F9, Eh, Nm, Gm, Gn, Et, G5, G0, Iz, Jd, C5, Bv, List.reverse_cons, List.reverse_nil, List.nil_append, List.cons_append, Kd, Bool.and_true, Bool.true_and, Bool.not_true, Bool.not_false, D5, Fd, Mr, true_and, and_true, D6, Ey, Iy, Jm, Jl, I4, Jf, I9, Iv, I8, Iu, Dm, Cx, Dn, Bi, implies_true, Bool.and_self, Ds, B3, Cw, Bs, Cd, Cg, Cy, Df, De, List.take_length, decide_true, decide_false, Option.some.injEq, Value.bool.injEq, Value.int.injEq, Bool.false_and, Bool.and_false, not_false_eq_true, not_true_eq_false, D4, List.length_set, Nat.reduceMul, Bool.not_eq_true, Bool.not_eq_false, List.all_cons, List.all_nil, Fb, Ba, B5, Ke, Gd, Uf, Ff, List.size_toArray, List.append_nil, List.singleton_append, Fy, D3, Bi, List.isEmpty_nil, List.isEmpty_cons, J5, I2, B8, E0, C7, Ew, E3, Dv, List.map_cons, List.map_nil, h0', h3, t2, Int.reduceLT]
   refine ⟨j / 128, by omega, e7 H (Nat.le_refl _) hH, rfl, by omega, v2, _, rfl, e2, e3, ?_⟩
   rw [List.append_assoc, List.singleton_append, ← Ib q2]
   exact hl
  ·have q2 : j < 128 := by have := Au q1; omega
   rw [Hh q2] at hl
   exact ⟨hH, j, wv, l, rfl, q2, rfl, hs, ho, hl⟩
 ·rintro s ⟨hH, j, wv, l, h0', hj, h3, hs, ho, hl⟩
  have hll := congrArg List.length hl
  rw [List.length_append] at hll
  obtain ⟨v2, H2, e1, e2, e3, e4, e5, e6, e7⟩ := hs.oneN (m := m) j ho hH.length_le hw (by simp at hll; omega)
  have hb := e2.b2s (fun x hx => by
   rw [hl] at hx
   obtain ⟨i, hi⟩ := List.getElem?_of_mem hx
   exact (Fp k i x hi).1)
  simp only [go_sem, Nat.reduceEqDiff, h0', h3, Lj (j : Int) (by omega) (by omega)]
  rw [e1]
  rotate_left
  ·rfl
  ·rfl
  ·rfl
  simp only [go_sem]
  rw [hb]
  rotate_left
  ·rfl
  ·rfl
  simp only [go_sem, hl]
  exact Fz (e7 H (Nat.le_refl _) hH)
theorem H9 {s : St} {x y : X} {b : ByteArray} {i : Nat} {c : UInt8} (hc : b[i]? = some c) (hx : Av s.ρ x = some (.string b)) (hy : Av s.ρ y = some (.int .i64 i)) : Ky s x y = some (.val (.int .u8 c.toNat), s) := by
 unfold Ky
 rw [hx, hy]
 simp only [Int.toNat_natCast, hc]
 rw [if_pos (by omega)]
 rfl
theorem Hg {b : ByteArray} {i : Nat} (h : i < b.size) : ∃ c, b[i]? = some c := ⟨_, getElem?_pos b i h⟩
theorem Ze {s : St} {x y : X} {b : ByteArray} {k : Nat} (hk : k ≤ b.size) (hx : Av s.ρ x = some (.string b)) (hy : Av s.ρ y = some (.int .i64 k)) : C2 s x none (some y) = some (.val (.string (b.extract 0 k)), s) := by
 unfold C2
 rw [hx]
 simp only [J7, hy]
 rw [if_pos ⟨by omega, by omega, by omega⟩]
 rfl
theorem D9 {s : St} {x y : X} {b : ByteArray} {k : Nat} (hk : k ≤ b.size) (hx : Av s.ρ x = some (.string b)) (hy : Av s.ρ y = some (.int .i64 k)) : C2 s x (some y) none = some (.val (.string (rest b k)), s) := by
 unfold C2
 rw [hx]
 simp only [J7, hy]
 rw [if_pos ⟨by omega, by omega, by omega⟩]
 rfl
theorem Ps {s : ByteArray} {k : Nat} {c : UInt8} (hc : s[k]? = some c) : Dh s (k + 1) = Dh s k + c.toNat % 128 * 128 ^ k := by
 rw [Dh, hc]
theorem uL {k : Nat} (h : k ≤ 7) : (128 : Nat) ^ k ≤ 562949953421312 := by
 have : (128 : Nat) ^ k ≤ 128 ^ 7 := Nat.pow_le_pow_right (by decide) h
 have h7 : (128 : Nat) ^ 7 = 562949953421312 := by decide
 omega
theorem Su (s : ByteArray) {k : Nat} (h : k ≤ 7) : Dh s k < 562949953421312 := J3 (Nt s k) (uL h)
theorem Xm {n p q : Nat} (h : n * p ≤ q) (hp : 0 < p) : n ≤ q := C8 (Nat.le_mul_of_pos_right n hp) h
theorem Sv {H : Hp} {s : ByteArray} (hs : s.size ≤ 4611686018427387904) : Aw EE 140 [.string s] H (.tuple #[.int .i64 ((Bm s).1 : Nat), .int .i64 ((Bm s).2 : Nat)]) := by
 refine Ag rfl rfl zX (by simp [kR]) rfl fun m hw => ?_
 simp only [go_sem, Nat.reduceEqDiff, kR]
 refine Ak 7 (fun i t => H <+: t.H ∧ t.ρ 0 = .val (.string s) ∧ t.ρ 4 = .val (.int .i64 ((i + 1 : Nat) : Int)) ∧ ∀ k, k ≤ i → 1 ≤ k → ¬ X7 s k)
  (fun t => H <+: t.H ∧ ∀ n k, ¬ Di s n k) ?_ ?_ ?_
 ·exact ⟨List.prefix_refl _, by simp [Ah, Cb], by simp [Ah], fun k h1 h2 => by omega⟩
 ·rintro i t hi ⟨hH, h0, h4, hn⟩
  simp only [go_sem, Nat.reduceEqDiff, h0, h4, Cn]
  refine Bf.intro (fun c1 => ?_) (fun c1 => ?_) <;> simp only [go_sem, Nat.reduceEqDiff, reduceCtorEq, c1, h0, h4, Cn]
  rotate_left
  ·have : ¬ i + 1 ≤ 7 := by have := Au c1; omega
   exact ⟨hH, fun n k h => hn k (by have := h.2.1; omega) h.1 h.2.2.2.2⟩
  refine Bf.intro (fun c2 => ?_) (fun c2 => ?_) <;> simp only [go_sem, Nat.reduceEqDiff, c1, c2, h0, h4]
  rotate_left
  ·have : ¬ i + 1 ≤ s.size := by have := Au c2; omega
   exact ⟨hH, fun n k h => hn k (by have := h.2.2.1; omega) h.1 h.2.2.2.2⟩
  have hi7 : i < 7 := by have := As c1; omega
  have his : i + 1 ≤ s.size := by have := As c2; omega
  have hvm := Su s (k := i + 1) (by omega)
  simp only [go_sem, Nat.reduceEqDiff, h0, h4, Ab (((i + 1 : Nat) : Int) - 1) (by omega) (by omega)]
  refine Fq (fun j t' => t'.H = t.H ∧ t'.ρ 0 = .val (.string s) ∧ t'.ρ 4 = .val (.int .i64 ((i + 1 : Nat) : Int)) ∧ t'.ρ 6 = .val (.int .i64 ((j : Int) - 1)) ∧ j ≤ i + 1 ∧ ∃ n : Nat, t'.ρ 5 = .val (.int .i64 n) ∧ n * 128 ^ j + Dh s j = Dh s (i + 1))
   (fun t' => t'.H = t.H ∧ t'.ρ 0 = .val (.string s) ∧ t'.ρ 4 = .val (.int .i64 ((i + 1 : Nat) : Int)) ∧ t'.ρ 5 = .val (.int .i64 ((Dh s (i + 1) : Nat) : Int))) (i + 1) ?_ ?_ ?_
  ·exact ⟨rfl, by simp [Ah, h0], by simp [Ah, h4], by simp [Ah], Nat.le_refl _, 0, by simp [Ah], by simp⟩
  ·rintro j t' ⟨jH, j0, j4, j6, hj, n, j5, hv⟩
   simp only [go_sem, Nat.reduceEqDiff, j0, j4, j5, j6]
   refine Bf.intro (fun c3 => ?_) (fun c3 => ?_) <;> simp only [go_sem, Nat.reduceEqDiff, j0, j4, j5, j6]
   ·obtain ⟨j', rfl⟩ : ∃ j', j = j' + 1 := ⟨j - 1, by have := As c3; omega⟩
    obtain ⟨c, hc⟩ := Hg (b := s) (i := j') (by omega)
    have j6' : ((j' + 1 : Nat) : Int) - 1 = (j' : Int) := by omega
    have hix := fun {t : St} {x y : X} => H9 (s := t) (x := x) (y := y) hc
    have hcb : c.toNat < 256 := c.toNat_lt
    have hvs := Ps hc
    have hpw : 0 < (128 : Nat) ^ j' := Nat.pow_pos (by decide)
    have hn1 : (n * 128 + c.toNat % 128) * 128 ^ j' + Dh s j' = Dh s (i + 1) := by
     rw [Nat.add_mul, ← hv, hvs, Nat.pow_succ, Nat.mul_assoc, Nat.mul_comm 128]
     omega
    have hn2 : n * 128 + c.toNat % 128 ≤ Dh s (i + 1) := Xm (p := 128 ^ j') (by omega) hpw
    have t1 : Int.tmod ((c.toNat : Nat) : Int) 128 = ((c.toNat % 128 : Nat) : Int) := rfl
    simp only [go_sem, Nat.reduceEqDiff, j0, j4, j5, j6, j6', hix, Ty, t1, Ab ((n : Int) * 128) (by omega) (by omega), Ab (((c.toNat : Nat) : Int)) (by omega) (by omega), Ab ((n : Int) * 128 + ((c.toNat % 128 : Nat) : Int)) (by omega) (by omega), Ab ((j' : Int) - 1) (by omega) (by omega)]
    exact ⟨j', by omega, jH, rfl, by omega, n * 128 + c.toNat % 128, by simp, hn1⟩
   ·have : j = 0 := by have := Au c3; omega
    subst this
    have : n = Dh s (i + 1) := by simpa [Dh] using hv
    subst this
    exact ⟨jH, rfl⟩
  ·rintro t' ⟨jH, j0, j4, j5⟩
   have a160 := Ax (Us (H := t.H) (n := ((Dh s (i + 1) : Nat) : Int)))
   have hsl := fun {t : St} {x y : X} => Ze (s := t) (x := x) (y := y) his
   have wt := hw.pre hH
   simp only [go_sem, Nat.reduceEqDiff]
   refine Af ?_
   simp only [go_sem, Nat.reduceEqDiff, j0, j4, j5, a160, jH, wt, hsl]
   refine ⟨by rfl, ?_⟩
   refine Bf.intro (fun c3 => ?_) (fun c3 => ?_) <;> simp only [go_sem, Nat.reduceEqDiff, j0, j4, j5, jH, Ab (((i + 1 : Nat) : Int) + 1) (by omega) (by omega)]
   ·have hv0 := As c3
    have hv : X7 s (i + 1) := hv0
    have hr : Di s (Dh s (i + 1)) (i + 1) := ⟨by omega, by omega, his, rfl, hv⟩
    rw [Oy hr]
    exact ⟨rfl, Fz hH⟩
   ·have hv0 := Au c3
    have hv : ¬ X7 s (i + 1) := hv0
    refine ⟨hi7, hH, by simp, fun k h1 h2 => ?_⟩
    by_cases e : k = i + 1
    ·subst e; exact hv
    ·exact hn k (by omega) h2
 ·rintro t ⟨hH, hn⟩
  simp only [go_sem]
  rw [L9 hn]
  exact ⟨rfl, Fz hH⟩
theorem Aaj {d i : Nat} (hd : d < 128) (hi : i ≤ 6) : IntKind.i64.wrap (((d : Nat) : Int) * 2 ^ (min (Int.toNat ((7 * i : Nat) : Int)) IntKind.i64.bits)) = ((d * 128 ^ i : Nat) : Int) := by
 have e : min (Int.toNat ((7 * i : Nat) : Int)) IntKind.i64.bits = 7 * i := by
  rw [Int.toNat_natCast]
  show min (7 * i) 64 = 7 * i
  omega
 have hpow : (128 : Nat) ^ i = 2 ^ (7 * i) := by rw [show (128 : Nat) = 2 ^ 7 by decide, ← Nat.pow_mul]
 have hp : (128 : Nat) ^ i ≤ 128 ^ 6 := Nat.pow_le_pow_right (by decide) hi
 have h6 : (128 : Nat) ^ 6 = 4398046511104 := by decide
 have hm : d * 128 ^ i ≤ 127 * 128 ^ i := Nat.mul_le_mul_right _ (by omega)
 have e2 : ((d : Nat) : Int) * 2 ^ (7 * i) = ((d * 128 ^ i : Nat) : Int) := by rw [hpow]; push_cast; rfl
 rw [e, e2, Ab _ (by omega) (by generalize d * 128 ^ i = q at *; omega)]
theorem Abn {H : Hp} {s : ByteArray} (hs : s.size ≤ 4611686018427387904) : Aw EE 161 [.string s] H (.tuple #[.int .i64 ((Bm s).1 : Nat), .int .i64 ((Bm s).2 : Nat)]) := by
 refine Ag rfl rfl wM (by simp [kP]) rfl fun m hw => ?_
 simp only [go_sem, kP]
 refine Ak 7 (fun i t => H <+: t.H ∧ t.ρ 0 = .val (.string s) ∧ t.ρ 5 = .val (.int .i64 i) ∧ t.ρ 4 = .val (.int .i64 ((Dh s i : Nat) : Int)) ∧ i ≤ s.size ∧ ∀ k b, k < i → s[k]? = some b → 128 ≤ b.toNat)
  (fun t => H <+: t.H ∧ ∀ n k, ¬ Di s n k) ?_ ?_ ?_
 ·exact ⟨List.prefix_refl _, by simp [Ah, Cb], by simp [Ah], by simp [Ah, Dh], by omega, fun k b h => by omega⟩
 ·rintro i t hi ⟨hH, h0, h5, h4, hil, hb⟩
  have nono : (7 ≤ i ∨ s.size ≤ i) → ∀ n k, ¬ Di s n k := fun h n k hr => by
   obtain ⟨r1, r2, r3, r4, r5⟩ := hr
   obtain ⟨b, hb2⟩ := Hg (b := s) (i := k - 1) (by omega)
   have h1 := (Hu r1 r3 r5).2 b hb2
   have h2 := hb (k - 1) b (by omega) hb2
   omega
  simp only [go_sem, Nat.reduceEqDiff, h0, h4, h5, Cn]
  refine Bf.intro (fun c1 => ?_) (fun c1 => ?_) <;> simp only [Gt, Gy, E2, Gs, E6, F6, Dk, Ha, Jo, O2, Ix, Oc, Iq, O0, C0, Option.isSome_some, Nat.le_refl, Er, O5, O9, Db, Dp, Dt, E5, Dl, Cz, Ep, Dg, Jc, Es, Ua, Ai, Ka, Rk, ex, Av, Dw, Dr, Dj, Cb, St.val, J4, Hc, Bd, Gc, Ub, Ui, J8, beq_true, beq_false, if_true, if_false, List.getElem?_cons_zero, List.getElem?_cons_succ, ↓reduceIte, Nat.reduceEqDiff, reduceCtorEq, Fe, Jz, B6, Ad.fv, Ad.live, Ge, List.length_cons, List.length_nil, List.drop_zero, List.drop_succ_cons, List.take_succ_cons, List.take_zero, Nat.reduceAdd, Nat.reduceLeDiff, Nat.zero_add, Nat.add_zero, J6, Gj, Ij, F9, Eh, Nm, Gm, Gn, Et, G5, G0, Iz, Jd, C5, Bv, List.reverse_cons, List.reverse_nil, List.nil_append, List.cons_append, Kd, Bool.and_true, Bool.true_and, Bool.not_true, Bool.not_false, D5, Fd, Mr, true_and, and_true, D6, Ey, Iy, Jm, Jl, I4, Jf, I9, Iv, I8, Iu, Dm, Cx, Dn, Bi, implies_true, Bool.and_self, Ds, B3, Cw, Bs, Cd, Cg, Cy, Df, De, List.take_length, decide_true, decide_false, Option.some.injEq, Value.bool.injEq, Value.int.injEq, Bool.false_and, Bool.and_false, not_false_eq_true, not_true_eq_false, D4, List.length_set, Nat.reduceMul, Bool.not_eq_true, Bool.not_eq_false, List.all_cons, List.all_nil, Fb, Ba, B5, Ke, Gd, Uf, Ff, List.size_toArray, List.append_nil, List.singleton_append, Fy, D3, Bi, List.isEmpty_nil, List.isEmpty_cons, J5, I2, B8, E0, C7, Ew, E3, Dv, List.map_cons, List.map_nil, c1, h0, h4, h5, Cn]
  rotate_left
  ·exact ⟨hH, nono (.inr (by have := Au c1; omega))⟩
  refine Bf.intro (fun c2 => ?_) (fun c2 => ?_) <;> simp only [Gt, Gy, E2, Gs, E6, F6, Dk, Ha, Jo, O2, Ix, Oc, Iq, O0, C0, Option.isSome_some, Nat.le_refl, Er, O5, O9, Db, Dp, Dt, E5, Dl, Cz, Ep, Dg, Jc, Es, Ua, Ai, Ka, Rk, ex, Av, Dw, Dr, Dj, Cb, St.val, J4, Hc, Bd, Gc, Ub, Ui, J8, beq_true, beq_false, if_true, if_false, List.getElem?_cons_zero, List.getElem?_cons_succ, ↓reduceIte, Nat.reduceEqDiff, reduceCtorEq, Fe, Jz, B6, Ad.fv, Ad.live, Ge, List.length_cons, List.length_nil, List.drop_zero, List.drop_succ_cons, List.take_succ_cons, List.take_zero, Nat.reduceAdd, Nat.reduceLeDiff, Nat.zero_add, Nat.add_zero, J6, Gj, Ij, F9, Eh, Nm, Gm, Gn, Et, G5, G0, Iz, Jd, C5, Bv, List.reverse_cons, List.reverse_nil, List.nil_append, List.cons_append, Kd, Bool.and_true, Bool.true_and, Bool.not_true, Bool.not_false, D5, Fd, Mr, true_and, and_true, D6, Ey, Iy, Jm, Jl, I4, Jf, I9, Iv, I8, Iu, Dm, Cx, Dn, Bi, implies_true, Bool.and_self, Ds, B3, Cw, Bs, Cd, Cg, Cy, Df, De, List.take_length, decide_true, decide_false, Option.some.injEq, Value.bool.injEq, Value.int.injEq, Bool.false_and, Bool.and_false, not_false_eq_true, not_true_eq_false, D4, List.length_set, Nat.reduceMul, Bool.not_eq_true, Bool.not_eq_false, List.all_cons, List.all_nil, Fb, Ba, B5, Ke, Gd, Uf, Ff, List.size_toArray, List.append_nil, List.singleton_append, Fy, D3, Bi, List.isEmpty_nil, List.isEmpty_cons, J5, I2, B8, E0, C7, Ew, E3, Dv, List.map_cons, List.map_nil, c1, c2, h0, h4, h5]
  rotate_left
  ·exact ⟨hH, nono (.inl (by have := Au c2; omega))⟩
  have hi7 : i < 7 := by have := As c2; omega
  have his : i < s.size := by have := As c1; omega
  obtain ⟨c, hc⟩ := Hg his
  have hix := fun {t : St} {x y : X} => H9 (s := t) (x := x) (y := y) hc
  have hcb : c.toNat < 256 := c.toNat_lt
  have t1 := oN hcb
  have t2 : IntKind.i64.wrap (((c.toNat % 128 : Nat) : Int)) = ((c.toNat % 128 : Nat) : Int) := Ab _ (by omega) (by omega)
  have t3 : IntKind.i64.wrap (7 * (i : Int)) = ((7 * i : Nat) : Int) := by rw [Ab _ (by omega) (by omega)]; omega
  have t3n : ¬ (((7 * i : Nat) : Int) < 0) := by omega
  have t4 := Aaj (d := c.toNat % 128) (i := i) (by omega) (by omega)
  have t5 := xM (Nt s i) (show c.toNat % 128 < 128 by omega) (show i ≤ 6 by omega)
  have hvs := Ps hc
  rw [← hvs] at t5
  have hvm := Su s (k := i + 1) (by omega)
  simp only [Gt, Gy, E2, Gs, E6, F6, Dk, Ha, Jo, O2, Ix, Oc, Iq, O0, C0, Option.isSome_some, Nat.le_refl, Er, O5, O9, Db, Dp, Dt, E5, Dl, Cz, Ep, Dg, Jc, Es, Ua, Ai, Ka, Rk, ex, Av, Dw, Dr, Dj, Cb, St.val, J4, Hc, Bd, Gc, Ub, Ui, J8, beq_true, beq_false, if_true, if_false, List.getElem?_cons_zero, List.getElem?_cons_succ, ↓reduceIte, Nat.reduceEqDiff, reduceCtorEq, Fe, Jz, B6, Ad.fv, Ad.live, Ge, List.length_cons, List.length_nil, List.drop_zero, List.drop_succ_cons, List.take_succ_cons, List.take_zero, Nat.reduceAdd, Nat.reduceLeDiff, Nat.zero_add, Nat.add_zero, J6, Gj, Ij, F9, Eh, Nm, Gm, Gn, Et, G5, G0, Iz, Jd, C5, Bv, List.reverse_cons, List.reverse_nil, List.nil_append, List.cons_append, Kd, Bool.and_true, Bool.true_and, Bool.not_true, Bool.not_false, D5, Fd, Mr, true_and, and_true, D6, Ey, Iy, Jm, Jl, I4, Jf, I9, Iv, I8, Iu, Dm, Cx, Dn, Bi, implies_true, Bool.and_self, Ds, B3, Cw, Bs, Cd, Cg, Cy, Df, De, List.take_length, decide_true, decide_false, Option.some.injEq, Value.bool.injEq, Value.int.injEq, Bool.false_and, Bool.and_false, not_false_eq_true, not_true_eq_false, D4, List.length_set, Nat.reduceMul, Bool.not_eq_true, Bool.not_eq_false, List.all_cons, List.all_nil, Fb, Ba, B5, Ke, Gd, Uf, Ff, List.size_toArray, List.append_nil, List.singleton_append, Fy, D3, Bi, List.isEmpty_nil, List.isEmpty_cons, J5, I2, B8, E0, C7, Ew, E3, Dv, List.map_cons, List.map_nil, h0, h4, h5, hix, t1, t2, t3, t3n, t4, t5]
  refine Bf.intro (fun c3 => ?_) (fun c3 => ?_) <;> simp only [Gt, Gy, E2, Gs, E6, F6, Dk, Ha, Jo, O2, Ix, Oc, Iq, O0, C0, Option.isSome_some, Nat.le_refl, Er, O5, O9, Db, Dp, Dt, E5, Dl, Cz, Ep, Dg, Jc, Es, Ua, Ai, Ka, Rk, ex, Av, Dw, Dr, Dj, Cb, St.val, J4, Hc, Bd, Gc, Ub, Ui, J8, beq_true, beq_false, if_true, if_false, List.getElem?_cons_zero, List.getElem?_cons_succ, ↓reduceIte, Nat.reduceEqDiff, reduceCtorEq, Fe, Jz, B6, Ad.fv, Ad.live, Ge, List.length_cons, List.length_nil, List.drop_zero, List.drop_succ_cons, List.take_succ_cons, List.take_zero, Nat.reduceAdd, Nat.reduceLeDiff, Nat.zero_add, Nat.add_zero, J6, Gj, Ij, F9, Eh, Nm, Gm, Gn, Et, G5, G0, Iz, Jd, C5, Bv, List.reverse_cons, List.reverse_nil, List.nil_append, List.cons_append, Kd, Bool.and_true, Bool.true_and, Bool.not_true, Bool.not_false, D5, Fd, Mr, true_and, and_true, D6, Ey, Iy, Jm, Jl, I4, Jf, I9, Iv, I8, Iu, Dm, Cx, Dn, Bi, implies_true, Bool.and_self, Ds, B3, Cw, Bs, Cd, Cg, Cy, Df, De, List.take_length, decide_true, decide_false, Option.some.injEq, Value.bool.injEq, Value.int.injEq, Bool.false_and, Bool.and_false, not_false_eq_true, not_true_eq_false, D4, List.length_set, Nat.reduceMul, Bool.not_eq_true, Bool.not_eq_false, List.all_cons, List.all_nil, Fb, Ba, B5, Ke, Gd, Uf, Ff, List.size_toArray, List.append_nil, List.singleton_append, Fy, D3, Bi, List.isEmpty_nil, List.isEmpty_cons, J5, I2, B8, E0, C7, Ew, E3, Dv, List.map_cons, List.map_nil, c3, h0, h4, h5, Ab ((i : Int) + 1) (by omega) (by omega)]
  ·have hlt : c.toNat < 128 := by have := As c3; omega
   have a172 := Ax (Abc (H := t.H) (n := ((Dh s (i + 1) : Nat) : Int)))
   have hsl : ∀ {t : St} {x y : X}, Av t.ρ x = some (.string s) → Av t.ρ y = some (.int .i64 ((i : Int) + 1)) → C2 t x none (some y) = some (.val (.string (s.extract 0 (i + 1))), t) := fun {t x y} hx hy => Ze (k := i + 1) (by omega) hx (by rw [hy]; rfl)
   have wt := hw.pre hH
   refine Af ?_
   simp only [Gt, Gy, E2, Gs, E6, F6, Dk, Ha, Jo, O2, Ix, Oc, Iq, O0, C0, Option.isSome_some, Nat.le_refl, Er, O5, O9, Db, Dp, Dt, E5, Dl, Cz, Ep, Dg, Jc, Es, Ua, Ai, Ka, Rk, ex, Av, Dw, Dr, Dj, Cb, St.val, J4, Hc, Bd, Gc, Ub, Ui, J8, beq_true, beq_false, if_true, if_false, List.getElem?_cons_zero, List.getElem?_cons_succ, ↓reduceIte, Nat.reduceEqDiff, reduceCtorEq, Fe, Jz, B6, Ad.fv, Ad.live, Ge, List.length_cons, List.length_nil, List.drop_zero, List.drop_succ_cons, List.take_succ_cons, List.take_zero, Nat.reduceAdd, Nat.reduceLeDiff, Nat.zero_add, Nat.add_zero, J6, Gj, Ij, F9, Eh, Nm, Gm, Gn, Et, G5, G0, Iz, Jd, C5, Bv, List.reverse_cons, List.reverse_nil, List.nil_append, List.cons_append, Kd, Bool.and_true, Bool.true_and, Bool.not_true, Bool.not_false, D5, Fd, Mr, true_and, and_true, D6, Ey, Iy, Jm, Jl, I4, Jf, I9, Iv, I8, Iu, Dm, Cx, Dn, Bi, implies_true, Bool.and_self, Ds, B3, Cw, Bs, Cd, Cg, Cy, Df, De, List.take_length, decide_true, decide_false, Option.some.injEq, Value.bool.injEq, Value.int.injEq, Bool.false_and, Bool.and_false, not_false_eq_true, not_true_eq_false, D4, List.length_set, Nat.reduceMul, Bool.not_eq_true, Bool.not_eq_false, List.all_cons, List.all_nil, Fb, Ba, B5, Ke, Gd, Uf, Ff, List.size_toArray, List.append_nil, List.singleton_append, Fy, D3, Bi, List.isEmpty_nil, List.isEmpty_cons, J5, I2, B8, E0, C7, Ew, E3, Dv, List.map_cons, List.map_nil, h0, h4, h5, a172, wt, hsl, Ab ((i : Int) + 1) (by omega) (by omega)]
   refine ⟨by rfl, ?_⟩
   refine Bf.intro (fun c4 => ?_) (fun c4 => ?_) <;> simp only [go_sem, Nat.reduceEqDiff, h0, h4, h5, Ab ((i : Int) + 1) (by omega) (by omega)]
   ·have hv0 := As c4
    have hv : X7 s (i + 1) := hv0
    have hr : Di s (Dh s (i + 1)) (i + 1) := ⟨by omega, by omega, by omega, rfl, hv⟩
    rw [Oy hr]
    exact ⟨rfl, Fz hH⟩
   ·have hv0 := Au c4
    have hv : ¬ X7 s (i + 1) := hv0
    have hn : ∀ n k, ¬ Di s n k := fun n k hr => by
     obtain ⟨r1, r2, r3, r4, r5⟩ := hr
     have hb2 := Hu r1 r3 r5
     rcases Nat.lt_trichotomy k (i + 1) with e | e | e
     ·obtain ⟨b, hb3⟩ := Hg (b := s) (i := k - 1) (by omega)
      have h1 := hb2.2 b hb3
      have h2 := hb (k - 1) b (by omega) hb3
      omega
     ·subst e; exact hv r5
     ·have := hb2.1 i c (by omega) hc
      omega
    rw [L9 hn]
    exact ⟨rfl, Fz hH⟩
  ·have hge : 128 ≤ c.toNat := by have := Au c3; omega
   refine ⟨hi7, hH, by simp, by omega, fun k b hk hkb => ?_⟩
   by_cases e : k = i
   ·subst e
    rw [hc] at hkb
    cases hkb
    exact hge
   ·exact hb k b (by omega) hkb
 ·rintro t ⟨hH, hn⟩
  simp only [go_sem]
  rw [L9 hn]
  exact ⟨rfl, Fz hH⟩
def Eu (k : Int) : Bool := decide (k ≥ 1) && decide (k ≤ 1000000)
theorem eO {m : Md} {draw : Bool} {s : St} {d : Option Nat} {ts : List Tk} {Q : Ex → St → Prop} {a : Int} (hw : Wr m s.H) :
  Cj EE m draw 110 (some [.int .i64 a]) s d ts Q = go EE m ts { s with ρ := Ah s.ρ d (.val (.bool (Eu a))) } Q := Wa hw
noncomputable def qC (s : ByteArray) (a : Nat) : Int := if (Bm (rest s a)).2 = 0 then -1 else ((Bm (rest s a)).1 : Nat)
theorem uT {H : Hp} {s : ByteArray} {a : Nat} (hs : s.size ≤ 4611686018427387904) (ha : a ≤ s.size) : Aw EE 142 [.string s, .int .i64 a] H (.tuple #[.int .i64 (qC s a), .int .i64 ((a + (Bm (rest s a)).2 : Nat) : Int)]) := by
 refine Ag rfl rfl tM (by simp [kG]) rfl fun m hw => ?_
 have hsl := fun {t : St} {x y : X} => D9 (s := t) (x := x) (y := y) ha
 have hrs := Bh s a
 have hr := Kz (rest s a)
 have a161 := Ax (Abn (H := H) (s := rest s a) (by omega))
 simp only [go_sem, Nat.reduceEqDiff, kG, hsl, a161, hw, List.getElem?_toArray, Bd]
 refine Bf.intro (fun h => ?_) (fun h => ?_) <;> simp only [go_sem, Nat.reduceEqDiff, Ab ((a : Int) + (((Bm (rest s a)).2 : Nat) : Int)) (by omega) (by omega)]
 ·have h0 : (Bm (rest s a)).2 = 0 := by have := As h; omega
  unfold qC
  rw [if_pos h0, h0]
  rfl
 ·have h0 : ¬ (Bm (rest s a)).2 = 0 := by have := Au h; omega
  unfold qC
  rw [if_neg h0]
  rfl
def Mo : Option Nat → Int
 | some e => (e : Int)
 | none => -1
theorem N3 {f : Nat → Option Nat} : ∀ {i n e : Nat}, i ≤ n → Je f i e = none → Je f n e = none := fun {i n e} h hn => by
 induction n with
 | zero =>
  have : i = 0 := by omega
  subst this
  exact hn
 | succ n ih =>
  by_cases h2 : i = n + 1
  ·subst h2; exact hn
  ·rw [G9, ih (by omega)]
theorem aW {c : UInt8} {n : Nat} (h : n < 256) : ((c.toNat : Nat) : Int) = (n : Int) ↔ c = UInt8.ofNat n := by
 constructor
 ·intro h2
  have h3 : c.toNat = n := by omega
  rw [← h3]
  simp
 ·rintro rfl
  simp
  omega
theorem oQ {s : ByteArray} (hs : s.size ≤ 4611686018427387904) : ∀ (d : Nat), d ≤ 8 → ∀ {H : Hp} {a : Nat}, a ≤ 4611686018427387904 → Aw EE 120 [.string s, .int .i64 a, .int .i64 d] H (.int .i64 (Mo (Fa s d a)))
 | 0, _, H, a, ha => by
  refine Ag rfl rfl oK (by simp [Y1]) rfl fun m hw => ?_
  simp only [go_sem, Nat.reduceEqDiff, Y1, Cn]
  refine Bf.intro (fun h => ?_) (fun h => ?_) <;> simp only [go_sem, Nat.reduceEqDiff, h]
  ·rfl
  ·have hz : decide (((0 : Nat) : Int) < 1) = true := rfl
   simp only [go_sem, Nat.reduceEqDiff, reduceCtorEq, hz]
   rfl
 | d + 1, hd, H, a, ha => by
  have ih : ∀ {H : Hp} {a : Nat}, a ≤ 4611686018427387904 → Aw EE 120 [.string s, .int .i64 a, .int .i64 d] H (.int .i64 (Mo (Fa s d a))) := fun {H a} h => oQ hs d (by omega) h
  refine Ag rfl rfl oK (by simp [Y1]) rfl fun m hw => ?_
  have hz : decide (((d + 1 : Nat) : Int) < 1) = false := decide_eq_false (by omega)
  simp only [go_sem, Nat.reduceEqDiff, Y1, Cn]
  refine Bf.intro (fun h => ?_) (fun h => ?_) <;> simp only [go_sem, Nat.reduceEqDiff, h, hz]
  ·have hn : s[a]? = none := getElem?_neg s a (by show ¬ a < s.size; have := As h; omega)
   rw [Fa, Ca, hn]
   rfl
  have hal : a < s.size := by have := Au h; omega
  obtain ⟨c, hc⟩ := Hg hal
  have hix := fun {t : St} {x y : X} => H9 (s := t) (x := x) (y := y) hc
  have a142 := Ax (uT (H := H) (a := a + 1) hs (by omega))
  have e1 : ((a + 1 : Nat) : Int) = (a : Int) + 1 := by omega
  rw [e1] at a142
  have hr := Kz (rest s (a + 1))
  rw [Bh] at hr
  have hT : Fa s (d + 1) a = Ca s (Fa s d) a := rfl
  rw [hT, Ca, hc]
  simp only
  have hN : qC s (a + 1) = if (Bm (rest s (a + 1))).2 = 0 then -1 else ((Bm (rest s (a + 1))).1 : Int) := rfl
  generalize qC s (a + 1) = N at hN a142
  generalize hp : Bm (rest s (a + 1)) = p at *
  obtain ⟨n, k⟩ := p
  simp only at hN hr a142 ⊢
  have dd : ∀ q : Nat, q < 256 → decide (((c.toNat : Nat) : Int) = (q : Int)) = decide (c = UInt8.ofNat q) := fun q hq => by rw [Bool.eq_iff_iff]; simp only [decide_eq_true_eq]; exact aW hq
  have d97 : decide (((c.toNat : Nat) : Int) = 97) = decide (c = 97) := dd 97 (by decide)
  have d107 : decide (((c.toNat : Nat) : Int) = 107) = decide (c = 107) := dd 107 (by decide)
  have d108 : decide (((c.toNat : Nat) : Int) = 108) = decide (c = 108) := dd 108 (by decide)
  have d115 : decide (((c.toNat : Nat) : Int) = 115) = decide (c = 115) := dd 115 (by decide)
  have w1 : IntKind.i64.wrap ((a : Int) + 1) = (a : Int) + 1 := Ab _ (by omega) (by omega)
  have hNb : -1 ≤ N ∧ N ≤ 562949953421311 := by rw [hN]; split <;> omega
  have wd : IntKind.i64.wrap (((d + 1 : Nat) : Int) - 1) = (d : Int) := by rw [Ab _ (by omega) (by omega)]; omega
  simp only [go_sem, Nat.reduceEqDiff, reduceCtorEq, hix, a142, hw, w1, List.getElem?_toArray, Bd, d97]
  have hNn : ¬ k = 0 → N = (n : Int) := fun h => by rw [hN, if_neg h]
  have hN0 : k = 0 → N = -1 := fun h => by rw [hN, if_pos h]
  refine Bf.intro (fun h97 => ?_) (fun h97 => ?_) <;> simp only [go_sem, Nat.reduceEqDiff, d97, d107, cZ, hw, hix]
  ·have h97 : c = 97 := As h97
   refine Bf.intro (fun q1 => ?_) (fun q1 => ?_) <;> simp only [go_sem, Nat.reduceEqDiff, q1, Cn, Ab ((s.size : Int) - ((a + 1 + k : Nat) : Int)) (by omega) (by omega)]
   ·have q1' : 0 ≤ N ∧ N ≤ 40 := by simpa using q1
    have hk : ¬ k = 0 := fun e => by have := hN0 e; omega
    have hn := hNn hk
    refine Bf.intro (fun q2 => ?_) (fun q2 => ?_) <;> simp only [go_sem, Nat.reduceEqDiff, q1, Ab (((a + 1 + k : Nat) : Int) + N) (by omega) (by omega)]
    ·have q2' := As q2
     rw [if_neg hk, if_pos h97, if_neg (by omega)]
     rfl
    ·have q2' := Au q2
     rw [if_neg hk, if_pos h97, if_pos (by omega)]
     simp only [Mo]
     omega
   ·have q1' : ¬ (0 ≤ N ∧ N ≤ 40) := by simpa using q1
    by_cases hk : k = 0
    ·rw [if_pos hk]; rfl
    ·have hn := hNn hk
     rw [if_neg hk, if_pos h97, if_neg (by omega)]
     rfl
  have h97 : ¬ c = 97 := Au h97
  refine Bf.intro (fun h107 => ?_) (fun h107 => ?_) <;> simp only [go_sem, Nat.reduceEqDiff, d107, d108, eO, hw, hix]
  ·have h107 : c = 107 := As h107
   refine Bf.intro (fun q1 => ?_) (fun q1 => ?_) <;> simp only [go_sem, Nat.reduceEqDiff]
   ·have q1' : 1 ≤ N ∧ N ≤ 1000000 := by simpa [Eu] using q1
    have hk : ¬ k = 0 := fun e => by have := hN0 e; omega
    have hn := hNn hk
    rw [if_neg hk, if_neg h97, if_pos h107, if_pos (by omega)]
    rfl
   ·have q1' : ¬ (1 ≤ N ∧ N ≤ 1000000) := by simpa [Eu] using q1
    by_cases hk : k = 0
    ·rw [if_pos hk]; rfl
    ·have hn := hNn hk
     rw [if_neg hk, if_neg h97, if_pos h107, if_neg (by omega)]
     rfl
  have h107 : ¬ c = 107 := Au h107
  refine Bf.intro (fun h108 => ?_) (fun h108 => ?_) <;> simp only [go_sem, Nat.reduceEqDiff, d108, d115, cZ, hw, hix]
  ·have h108 : c = 108 := As h108
   refine Bf.intro (fun q1 => ?_) (fun q1 => ?_) <;> simp only [go_sem, Nat.reduceEqDiff]
   ·have q1' : 0 ≤ N ∧ N ≤ 12 := by simpa using q1
    have hk : ¬ k = 0 := fun e => by have := hN0 e; omega
    have hn := hNn hk
    rw [if_neg hk, if_neg h97, if_neg h107, if_pos h108, if_pos (by omega)]
    refine Ak n (fun i t => t.H = H ∧ t.ρ 0 = .val (.string s) ∧ t.ρ 2 = .val (.int .i64 ((d + 1 : Nat) : Int)) ∧ t.ρ 7 = .val (.int .i64 N) ∧ t.ρ 9 = .val (.int .i64 i) ∧ t.ρ 8 = .val (.int .i64 (Mo (Je (Fa s d) i (a + 1 + k)))))
     (fun t => t.H = H ∧ t.ρ 8 = .val (.int .i64 (Mo (Je (Fa s d) n (a + 1 + k))))) ?_ ?_ ?_
    ·exact ⟨rfl, by simp [Ah, Cb], by simp [Ah, Cb], by simp [Ah], by simp [Ah], by simp [Ah, Je, Mo]⟩
    ·rintro i t hi ⟨hH, h0, h2, h7, h9, h8⟩
     simp only [go_sem, Nat.reduceEqDiff, h0, h2, h7, h8, h9]
     refine Bf.intro (fun q2 => ?_) (fun q2 => ?_) <;> simp only [go_sem, Nat.reduceEqDiff, reduceCtorEq, q2, h0, h2, h7, h8, h9]
     ·have hin : i < n := by have := As q2; omega
      cases hit : Je (Fa s d) i (a + 1 + k) with
      | none =>
       have : decide (Mo none ≥ 0) = false := rfl
       simp only [go_sem, Nat.reduceEqDiff, reduceCtorEq, this, h0, h2, h7, h8, h9]
       exact ⟨hH, by rw [N3 (Nat.le_of_lt hin) hit, hit]⟩
      | some e =>
       have he := Kt (s := s) (f := Fa s d) (fun a e h => Ef h) (by omega) hit
       have : decide (Mo (some e) ≥ 0) = true := decide_eq_true (by simp [Mo])
       have hh8 : t.ρ 8 = .val (.int .i64 (e : Int)) := by rw [h8, hit]; rfl
       have a120 := Ax (ih (H := H) (a := e) (by omega))
       simp only [go_sem, Nat.reduceEqDiff, reduceCtorEq, this, h0, h2, h7, hh8, h9, wd, hH, a120, hw, Ab ((i : Int) + 1) (by omega) (by omega)]
       refine ⟨hin, by simp, ?_⟩
       rw [G9, hit]
     ·have hin : i = n := by have := Au q2; omega
      subst hin
      exact ⟨hH, rfl⟩
    ·rintro t ⟨hH, h8⟩
     simp only [go_sem, Nat.reduceEqDiff, h8, hH]
   ·have q1' : ¬ (0 ≤ N ∧ N ≤ 12) := by simpa using q1
    by_cases hk : k = 0
    ·rw [if_pos hk]; rfl
    ·have hn := hNn hk
     rw [if_neg hk, if_neg h97, if_neg h107, if_pos h108, if_neg (by omega)]
     rfl
  have h108 : ¬ c = 108 := Au h108
  refine Bf.intro (fun h115 => ?_) (fun h115 => ?_) <;> simp only [go_sem, Nat.reduceEqDiff, d115, eO, hw, hix]
  ·have h115 : c = 115 := As h115
   refine Bf.intro (fun q1 => ?_) (fun q1 => ?_) <;> simp only [go_sem, Nat.reduceEqDiff]
   ·have q1' : 1 ≤ N ∧ N ≤ 1000000 := by simpa [Eu] using q1
    have hk : ¬ k = 0 := fun e => by have := hN0 e; omega
    have hn := hNn hk
    have a120 := Ax (ih (H := H) (a := a + 1 + k) (by omega))
    simp only [go_sem, wd, a120, hw]
    rw [if_neg hk, if_neg h97, if_neg h107, if_neg h108, if_pos h115, if_pos (by omega)]
   ·have q1' : ¬ (1 ≤ N ∧ N ≤ 1000000) := by simpa [Eu] using q1
    by_cases hk : k = 0
    ·rw [if_pos hk]; rfl
    ·have hn := hNn hk
     rw [if_neg hk, if_neg h97, if_neg h107, if_neg h108, if_pos h115, if_neg (by omega)]
     rfl
  have h115 : ¬ c = 115 := Au h115
  by_cases hk : k = 0
  ·rw [if_pos hk]; rfl
  ·rw [if_neg hk, if_neg h97, if_neg h107, if_neg h108, if_neg h115]
   rfl
def Fj (a : Nat) : Option Nat → Int
 | some e => (e : Int) - a
 | none => 0
theorem tK {s : ByteArray} (hs : s.size ≤ 4611686018427387904) : ∀ (d : Nat), d ≤ 8 → ∀ {H : Hp} {a : Nat}, a ≤ 4611686018427387904 → A4 EE 99 [.string s, .int .i64 a, .int .i64 d] H fun r => ∃ dd : Int, r = .tuple #[.int .i64 (Fj a (Fa s d a)), .int .i64 dd]
 | 0, _, H, a, ha => by
  refine Ar rfl rfl k99 (by simp [oR]) fun m hw => ?_
  simp only [go_sem, Nat.reduceEqDiff, oR, Cn]
  refine Bf.intro (fun h => ?_) (fun h => ?_) <;> simp only [go_sem, Nat.reduceEqDiff, h]
  ·exact ⟨rfl, 0, rfl⟩
  ·have hz : decide (((0 : Nat) : Int) < 1) = true := rfl
   simp only [go_sem, Nat.reduceEqDiff, reduceCtorEq, hz]
   exact ⟨rfl, 0, rfl⟩
 | d + 1, hd, H, a, ha => by
  have ih : ∀ {H : Hp} {a : Nat}, a ≤ 4611686018427387904 → A4 EE 99 [.string s, .int .i64 a, .int .i64 d] H fun r => ∃ dd : Int, r = .tuple #[.int .i64 (Fj a (Fa s d a)), .int .i64 dd] := fun {H a} h => tK hs d (by omega) h
  refine Ar rfl rfl k99 (by simp [oR]) fun m hw => ?_
  have hz : decide (((d + 1 : Nat) : Int) < 1) = false := decide_eq_false (by omega)
  have hT : Fa s (d + 1) a = Ca s (Fa s d) a := rfl
  rw [hT, Ca]
  simp only [go_sem, Nat.reduceEqDiff, oR, Cn]
  refine Bf.intro (fun h => ?_) (fun h => ?_) <;> simp only [go_sem, Nat.reduceEqDiff, h, hz]
  ·have hn : s[a]? = none := getElem?_neg s a (by show ¬ a < s.size; have := As h; omega)
   rw [hn]
   exact ⟨rfl, 0, rfl⟩
  have hal : a < s.size := by have := Au h; omega
  obtain ⟨c, hc⟩ := Hg hal
  rw [hc]
  simp only
  have hix := fun {t : St} {x y : X} => H9 (s := t) (x := x) (y := y) hc
  have hrs := Bh s (a + 1)
  have a140 := Ax (Sv (H := H) (s := rest s (a + 1)) (by omega))
  have hsl : ∀ {t : St} {x y : X}, Av t.ρ x = some (.string s) → Av t.ρ y = some (.int .i64 ((a : Int) + 1)) → C2 t x (some y) none = some (.val (.string (rest s (a + 1))), t) := fun {t x y} hx hy => D9 (k := a + 1) (by omega) hx (by rw [hy]; rfl)
  have hr := Kz (rest s (a + 1))
  rw [Bh] at hr
  generalize hp : Bm (rest s (a + 1)) = p at *
  obtain ⟨n, k⟩ := p
  simp only at hr a140 ⊢
  have dd : ∀ q : Nat, q < 256 → decide (((c.toNat : Nat) : Int) = (q : Int)) = decide (c = UInt8.ofNat q) := fun q hq => by rw [Bool.eq_iff_iff]; simp only [decide_eq_true_eq]; exact aW hq
  have d97 : decide (((c.toNat : Nat) : Int) = 97) = decide (c = 97) := dd 97 (by decide)
  have d107 : decide (((c.toNat : Nat) : Int) = 107) = decide (c = 107) := dd 107 (by decide)
  have d108 : decide (((c.toNat : Nat) : Int) = 108) = decide (c = 108) := dd 108 (by decide)
  have d115 : decide (((c.toNat : Nat) : Int) = 115) = decide (c = 115) := dd 115 (by decide)
  have w1 : IntKind.i64.wrap ((a : Int) + 1) = (a : Int) + 1 := Ab _ (by omega) (by omega)
  have w2 : IntKind.i64.wrap ((a : Int) + 1 + (k : Int)) = ((a + 1 + k : Nat) : Int) := by rw [Ab _ (by omega) (by omega)]; omega
  have w3 : IntKind.i64.wrap (1 + (k : Int)) = 1 + (k : Int) := Ab _ (by omega) (by omega)
  have wd : IntKind.i64.wrap (((d + 1 : Nat) : Int) - 1) = (d : Int) := by rw [Ab _ (by omega) (by omega)]; omega
  simp only [go_sem, Nat.reduceEqDiff, reduceCtorEq, hix, hsl, a140, hw, w1, w2, List.getElem?_toArray, Bd]
  refine Bf.intro (fun hk => ?_) (fun hk => ?_) <;> simp only [go_sem, Nat.reduceEqDiff, hix, w1, w2, d97]
  ·have hk : k = 0 := by have := As hk; omega
   rw [if_pos hk]
   exact ⟨rfl, 0, rfl⟩
  have hk : ¬ k = 0 := by have := Au hk; omega
  rw [if_neg hk]
  refine Bf.intro (fun h97 => ?_) (fun h97 => ?_) <;> simp only [go_sem, Nat.reduceEqDiff, d97, d107, Yd, hw, hix, w3]
  ·have h97 : c = 97 := As h97
   rw [if_pos h97]
   refine Bf.intro (fun q1 => ?_) (fun q1 => ?_) <;> simp only [go_sem, Nat.reduceEqDiff, q1, w3, Cn, Ab ((s.size : Int) - ((a + 1 + k : Nat) : Int)) (by omega) (by omega)]
   ·have q1' := As q1
    rw [if_neg (by omega)]
    exact ⟨rfl, 0, rfl⟩
   ·have q1' := Au q1
    refine Bf.intro (fun q2 => ?_) (fun q2 => ?_) <;> simp only [go_sem, Nat.reduceEqDiff, q1, w3, Ab (1 + (k : Int) + (n : Int)) (by omega) (by omega)]
    ·have q2' := As q2
     rw [if_neg (by omega)]
     exact ⟨rfl, 0, rfl⟩
    ·have q2' := Au q2
     rw [if_pos (by omega)]
     refine ⟨rfl, 1, ?_⟩
     have : Fj a (some (a + 1 + k + n)) = 1 + (k : Int) + (n : Int) := by simp only [Fj]; omega
     rw [this]
  have h97 : ¬ c = 97 := Au h97
  rw [if_neg h97]
  refine Bf.intro (fun h107 => ?_) (fun h107 => ?_) <;> simp only [go_sem, Nat.reduceEqDiff, d107, d115, Yd, hw, hix, w3]
  ·have h107 : c = 107 := As h107
   rw [if_pos h107]
   refine Bf.intro (fun q1 => ?_) (fun q1 => ?_) <;> simp only [go_sem, Nat.reduceEqDiff, w3]
   ·have q1' : 1 ≤ (n : Int) ∧ (n : Int) ≤ 1000000 := by simpa using q1
    rw [if_pos (by omega)]
    refine ⟨rfl, 1, ?_⟩
    have : Fj a (some (a + 1 + k)) = 1 + (k : Int) := by simp only [Fj]; omega
    rw [this]
   ·have q1' : ¬ (1 ≤ (n : Int) ∧ (n : Int) ≤ 1000000) := by simpa using q1
    rw [if_neg (by omega)]
    exact ⟨rfl, 0, rfl⟩
  have h107 : ¬ c = 107 := Au h107
  rw [if_neg h107]
  refine Bf.intro (fun h115 => ?_) (fun h115 => ?_) <;> simp only [go_sem, Nat.reduceEqDiff, d115, d108, wd, hix]
  ·have h115 : c = 115 := As h115
   have h108 : ¬ c = 108 := by rw [h115]; decide
   rw [if_neg h108, if_pos h115]
   refine Aa (fun m' h => ih (H := H) (a := a + 1 + k) (by omega) m' h) rfl hw fun r1 H1 ⟨⟨dd1, e1⟩, e2⟩ => ?_
   subst e1
   have e2 : H1 = H := e2
   subst e2
   simp only [go_sem, Nat.reduceEqDiff, List.getElem?_toArray, Bd]
   cases hf : Fa s d (a + 1 + k) with
   | none =>
    have z1 : decide (Fj (a + 1 + k) none = 0) = true := rfl
    simp only [go_sem, Nat.reduceEqDiff, reduceCtorEq, z1]
    refine ⟨rfl, 0, ?_⟩
    split <;> rfl
   | some e =>
    have he := Ef hf
    have z1 : decide (Fj (a + 1 + k) (some e) = 0) = false := decide_eq_false (by simp only [Fj]; omega)
    simp only [go_sem, Nat.reduceEqDiff, reduceCtorEq, z1, Yd, hw]
    have wl : IntKind.i64.wrap (1 + (k : Int) + Fj (a + 1 + k) (some e)) = 1 + (k : Int) + Fj (a + 1 + k) (some e) := Ab _ (by simp only [Fj]; omega) (by simp only [Fj]; omega)
    refine Bf.intro (fun q1 => ?_) (fun q1 => ?_) <;> simp only [go_sem, Nat.reduceEqDiff, reduceCtorEq, z1, q1, w3, wl]
    ·have q1' : 1 ≤ (n : Int) ∧ (n : Int) ≤ 1000000 := by simpa using q1
     rw [if_pos (by omega)]
     have : Fj a (some e) = 1 + (k : Int) + Fj (a + 1 + k) (some e) := by simp only [Fj]; omega
     rw [this]
     exact ⟨rfl, _, rfl⟩
    ·have q1' : ¬ (1 ≤ (n : Int) ∧ (n : Int) ≤ 1000000) := by simpa using q1
     rw [if_neg (by omega)]
     exact ⟨rfl, 0, rfl⟩
  have h115 : ¬ c = 115 := Au h115
  refine Bf.intro (fun h108 => ?_) (fun h108 => ?_) <;> simp only [go_sem, Nat.reduceEqDiff, d108, hix]
  rotate_left
  ·have h108 : ¬ c = 108 := Au h108
   rw [if_neg h108, if_neg h115]
   exact ⟨rfl, 0, rfl⟩
  have h108 : c = 108 := As h108
  rw [if_pos h108]
  refine Bf.intro (fun q1 => ?_) (fun q1 => ?_) <;> simp only [go_sem, Nat.reduceEqDiff]
  ·have q1' := As q1
   rw [if_neg (by omega)]
   exact ⟨rfl, 0, rfl⟩
  have q1' := Au q1
  rw [if_pos (show n ≤ 12 by omega)]
  refine Ak n (fun i t => t.H = H ∧ t.ρ 0 = .val (.string s) ∧ t.ρ 1 = .val (.int .i64 a) ∧ t.ρ 2 = .val (.int .i64 ((d + 1 : Nat) : Int)) ∧ t.ρ 8 = .val (.int .i64 n) ∧ t.ρ 14 = .val (.int .i64 i) ∧ (∃ dp : Int, t.ρ 13 = .val (.int .i64 dp)) ∧ ∃ e : Nat, t.ρ 10 = .val (.int .i64 e) ∧ Je (Fa s d) i (a + 1 + k) = some e)
   (fun t => t.H = H ∧ t.ρ 1 = .val (.int .i64 a) ∧ (∃ dp : Int, t.ρ 13 = .val (.int .i64 dp)) ∧ ∃ e : Nat, t.ρ 10 = .val (.int .i64 e) ∧ Je (Fa s d) n (a + 1 + k) = some e) ?_ ?_ ?_
  ·exact ⟨rfl, by simp [Ah, Cb], by simp [Ah, Cb], by simp [Ah, Cb], by simp [Ah], by simp [Ah], ⟨0, by simp [Ah]⟩, a + 1 + k, by simp [Ah], rfl⟩
  ·rintro i t hi ⟨hH, h0, h1, h2, h8, h14, ⟨dp, h13⟩, e, h10, hit⟩
   have he := Kt (s := s) (f := Fa s d) (fun a e h => Ef h) (by omega) hit
   simp only [go_sem, Nat.reduceEqDiff, h0, h1, h2, h8, h10, h13, h14]
   refine Bf.intro (fun q2 => ?_) (fun q2 => ?_) <;> simp only [go_sem, Nat.reduceEqDiff, h0, h1, h2, h8, h10, h13, h14, wd]
   ·have hin : i < n := by have := As q2; omega
    refine Aa (fun m' h => ih (H := H) (a := e) (by omega) m' h) hH hw fun r1 H1 ⟨⟨dd1, e1⟩, e2⟩ => ?_
    subst e1 e2
    simp only [go_sem, Nat.reduceEqDiff, h0, h1, h2, h8, h10, h13, h14, List.getElem?_toArray, Bd]
    cases hf : Fa s d e with
    | none =>
     have z1 : decide (Fj e none = 0) = true := rfl
     have hno : Je (Fa s d) n (a + 1 + k) = none := N3 (i := i + 1) hin (by rw [G9, hit]; exact hf)
     simp only [go_sem, Nat.reduceEqDiff, z1, h0, h1, h2, h8, h10, h13, h14]
     rw [hno]
     exact ⟨rfl, 0, rfl⟩
    | some e' =>
     have he' := Ef hf
     have z1 : decide (Fj e (some e') = 0) = false := decide_eq_false (by simp only [Fj]; omega)
     have z2 : (e : Int) + Fj e (some e') = (e' : Int) := by simp only [Fj]; omega
     simp only [go_sem, Nat.reduceEqDiff, z1, h0, h1, h2, h8, h10, h13, h14, z2, Ab ((e' : Nat) : Int) (by omega) (by omega)]
     refine Bf.intro (fun q3 => ?_) (fun q3 => ?_) <;> simp only [go_sem, Nat.reduceEqDiff, h0, h1, h2, h8, h10, h13, h14, Ab ((i : Int) + 1) (by omega) (by omega)]
     ·exact ⟨hin, by simp, ⟨_, rfl⟩, e', rfl, by rw [G9, hit]; exact hf⟩
     ·exact ⟨hin, by simp, ⟨_, rfl⟩, e', rfl, by rw [G9, hit]; exact hf⟩
   ·have hin : i = n := by have := Au q2; omega
    subst hin
    exact ⟨hH, ⟨_, rfl⟩, e, rfl, hit⟩
  ·rintro t ⟨hH, h1, ⟨dp, h13⟩, e, h10, hit⟩
   have he := Kt (s := s) (f := Fa s d) (fun a e h => Ef h) (by omega) hit
   simp only [go_sem, Nat.reduceEqDiff, h1, h13, h10, hH, Ab ((e : Int) - (a : Int)) (by omega) (by omega)]
   rw [hit]
   exact ⟨rfl, _, rfl⟩
theorem oE {s : ByteArray} {e : Nat} (h : Fa s 8 0 = some e) : e ≤ s.size := (Ef h).2
theorem X6 {H : Hp} {s : ByteArray} (hs : s.size ≤ 4611686018427387904) : Aw EE 57 [.string s] H (.bool (Ej s)) := by
 refine Ag rfl rfl k57 (by simp [xF]) rfl fun m hw => ?_
 simp only [go_sem, Nat.reduceEqDiff, reduceCtorEq, xF]
 refine Aa (fun m' h => tK hs 8 (Nat.le_refl _) (H := H) (a := 0) (by omega) m' h) rfl hw fun r1 H1 ⟨⟨dd1, e1⟩, e2⟩ => ?_
 subst e1
 have e2 : H1 = H := e2
 subst e2
 have key : Ej s = (decide (Fj 0 (Fa s 8 0) > 0) && decide (Fj 0 (Fa s 8 0) = (s.size : Int)) && decide (Fj 0 (Fa s 8 0) ≤ 900)) := by
  rw [Bool.eq_iff_iff, Ei]
  simp only [Bool.and_eq_true, decide_eq_true_eq]
  unfold qW
  cases h : Fa s 8 0 with
  | none => simp [Fj]
  | some e =>
   have := oE h
   simp only [Fj, Option.some.injEq]
   omega
 rw [key]
 simp only [go_sem, Nat.reduceEqDiff, reduceCtorEq, List.getElem?_toArray, Bd, Cn]
 refine Bf.intro (fun q1 => ?_) (fun q1 => ?_) <;> simp only [go_sem, Nat.reduceEqDiff, reduceCtorEq, q1, Cn]
 refine Bf.intro (fun q2 => ?_) (fun q2 => ?_) <;> simp only [go_sem, Nat.reduceEqDiff, reduceCtorEq, q1, q2, Cn]
theorem f79 {H : Hp} {s : ByteArray} (hs : s.size ≤ 4611686018427387904) : Aw EE 79 [.string s] H (.bool (Ej s)) := by
 refine Ag rfl rfl k79 (by simp [vG]) rfl fun m hw => ?_
 have a120 := Ax (oQ hs 8 (Nat.le_refl _) (H := H) (a := 0) (by omega))
 have a120 : ∀ {m : Md} {draw : Bool} {t : St} {d' : Option Nat} {ts : List Tk} {Q : Ex → St → Prop}, t.H = H → Wr m H → Cj EE m draw 120 (some [.string s, .int .i64 0, .int .i64 8]) t d' ts Q = go EE m ts { t with ρ := Ah t.ρ d' (.val (.int .i64 (Mo (Fa s 8 0)))) } Q := fun {m draw t d' ts Q} h1 h2 => a120 h1 h2
 have key : Ej s = ((decide ((s.size : Int) ≥ 1) && decide ((s.size : Int) ≤ 900)) && decide (Mo (Fa s 8 0) = (s.size : Int))) := by
  rw [Bool.eq_iff_iff, Ei]
  simp only [Bool.and_eq_true, decide_eq_true_eq]
  unfold qW
  cases h : Fa s 8 0 with
  | none => simp [Mo]
  | some e => simp only [Mo, Option.some.injEq]; omega
 rw [key]
 simp only [go_sem, Nat.reduceEqDiff, reduceCtorEq, vG, Cn, cZ, hw]
 refine Bf.intro (fun q1 => ?_) (fun q1 => ?_) <;> simp only [go_sem, Nat.reduceEqDiff, reduceCtorEq, q1, a120, hw, Cn]
abbrev Cr := Int × Int × Int × Int × Re × ByteArray
noncomputable def C4 (x : Cr) : Bool := A0 x.1 0 5 && (A0 x.2.1 0 5 && (Qf x.2.2.1 && (A0 x.2.2.2.1 1 1000000 && (E4 x.2.2.2.2.1 && Ej x.2.2.2.2.2))))
theorem f59 {H : Hp} {x : Cr} (ht : x.2.2.2.2.2.size ≤ 4611686018427387904) : Aw EE 59 [.agg #[.int .i64 x.1, .int .i64 x.2.1, .int .i64 x.2.2.1, .int .i64 x.2.2.2.1, .int .i64 x.2.2.2.2.1.1, .int .i64 x.2.2.2.2.1.2.1, .int .i64 x.2.2.2.2.1.2.2, .string x.2.2.2.2.2]] H (.bool (C4 x)) := by
 refine Ag rfl rfl k59 (by simp [c59]) rfl fun m hw => ?_
 have a101 := Ax (Rj (H := H) (x := x.2.2.2.2.1))
 have a57 := Ax (X6 (H := H) ht)
 simp only [go_sem, Nat.reduceEqDiff, reduceCtorEq, c59, Xy, hw]
 cases q1 : A0 x.1 0 5 <;> simp only [go_sem, Nat.reduceEqDiff, reduceCtorEq, q1, Xy, hw]
 ·rw [show C4 x = false by unfold C4; rw [q1]; rfl]
 cases q2 : A0 x.2.1 0 5 <;> simp only [go_sem, Nat.reduceEqDiff, reduceCtorEq, q2, Yh, hw]
 ·rw [show C4 x = false by unfold C4; rw [q1, q2]; rfl]
 cases q3 : Qf x.2.2.1 <;> simp only [go_sem, Nat.reduceEqDiff, reduceCtorEq, q3, Cu, hw]
 ·rw [show C4 x = false by unfold C4; rw [q1, q2, q3]; rfl]
 cases q4 : A0 x.2.2.2.1 1 1000000 <;> simp only [go_sem, Nat.reduceEqDiff, reduceCtorEq, Nat.reduceLeDiff, q4, a101, hw]
 ·rw [show C4 x = false by unfold C4; rw [q1, q2, q3, q4]; rfl]
 cases q5 : E4 x.2.2.2.2.1 <;> simp only [go_sem, Nat.reduceEqDiff, reduceCtorEq, Nat.reduceLeDiff, q5, a57, hw]
 ·rw [show C4 x = false by unfold C4; rw [q1, q2, q3, q4, q5]; rfl]
 ·rw [show C4 x = Ej x.2.2.2.2.2 by unfold C4; rw [q1, q2, q3, q4, q5]; rfl]
theorem f74 {H : Hp} {x : Cr} (ht : x.2.2.2.2.2.size ≤ 4611686018427387904) (hf : X5 x.2.2.1) : Aw EE 74 [.agg #[.int .i64 x.1, .int .i64 x.2.1, .int .i64 x.2.2.1, .int .i64 x.2.2.2.1, .int .i64 x.2.2.2.2.1.1, .int .i64 x.2.2.2.2.1.2.1, .int .i64 x.2.2.2.2.1.2.2, .string x.2.2.2.2.2]] H (.bool (C4 x)) := by
 refine Ag rfl rfl k74 (by simp [c74]) rfl fun m hw => ?_
 have a113 := Ax (xC (H := H) (x := x.2.2.2.2.1))
 have a79 := Ax (f79 (H := H) ht)
 have a112 := Ax (Aav (H := H) hf)
 simp only [go_sem, Nat.reduceEqDiff, reduceCtorEq, c74, S4, hw]
 cases q1 : A0 x.1 0 5 <;> simp only [go_sem, Nat.reduceEqDiff, reduceCtorEq, q1, S4, hw]
 ·rw [show C4 x = false by unfold C4; rw [q1]; rfl]
 cases q2 : A0 x.2.1 0 5 <;> simp only [go_sem, Nat.reduceEqDiff, reduceCtorEq, q2, a112, hw]
 ·rw [show C4 x = false by unfold C4; rw [q1, q2]; rfl]
 cases q3 : Qf x.2.2.1 <;> simp only [go_sem, Nat.reduceEqDiff, reduceCtorEq, q3, Wa, hw]
 ·rw [show C4 x = false by unfold C4; rw [q1, q2, q3]; rfl]
 cases q4 : A0 x.2.2.2.1 1 1000000 <;> simp only [go_sem, Nat.reduceEqDiff, reduceCtorEq, Nat.reduceLeDiff, q4, a113, hw]
 ·rw [show C4 x = false by unfold C4; rw [q1, q2, q3, q4]; rfl]
 cases q5 : E4 x.2.2.2.2.1 <;> simp only [go_sem, Nat.reduceEqDiff, reduceCtorEq, Nat.reduceLeDiff, q5, a79, hw]
 ·rw [show C4 x = false by unfold C4; rw [q1, q2, q3, q4, q5]; rfl]
 ·rw [show C4 x = Ej x.2.2.2.2.2 by unfold C4; rw [q1, q2, q3, q4, q5]; rfl]
section
def Gv (l : List Re) (i : Nat) (x : Re) : Bool := Hk x && !((l.take i).any (G3 · x))
def uW (q : Int) (l : List Re) : Prop := A0 q (-1) 200000 = true ∧ l.length ≤ 6 ∧ ∀ i, (h : i < l.length) → Gv l i l[i] = true
open Classical in
noncomputable def Ho (q : Int) (l : List Re) : Bool := decide (uW q l)
theorem aO {q : Int} {l : List Re} : Ho q l = true ↔ uW q l := by unfold Ho; simp
theorem Mz {q : Int} {l : List Re} (h : ¬ uW q l) : Ho q l = false := by
 cases h2 : Ho q l with
 | false => rfl
 | true => exact absurd (aO.1 h2) h
theorem vZ {H : Hp} {w : Value} {q : Int} {l : List Re} (hl : Hl H w l) : Aw EE 60 [.agg #[.int .i64 q, w]] H (.bool (Ho q l)) := by
 refine Ag rfl rfl k60 (by simp [zC]) rfl fun m hw => ?_
 have hroom := hl.room
 simp only [go_sem, Nat.reduceEqDiff, reduceCtorEq, zC, Cu, hw]
 cases q1 : A0 q (-1) 200000 <;> simp only [go_sem, Nat.reduceEqDiff, reduceCtorEq, q1, hl.len]
 ·rw [Mz fun h => by have := h.1; rw [q1] at this; cases this]
 cases q2 : decide ((l.length : Int) > 6) <;> simp only [go_sem, Nat.reduceEqDiff, reduceCtorEq, q2]
 rotate_left
 ·rw [Mz fun h => by have := h.2.1; have := As q2; omega]
 have h6 : l.length ≤ 6 := by have := Au q2; omega
 refine Ak l.length (fun i s => s.H = H ∧ (∃ g, s.ρ 1 = .bx g [.int .i64 q, w]) ∧ s.ρ 3 = .val (.int .i64 i) ∧ ∀ j, j < i → (h : j < l.length) → Gv l j l[j] = true)
  (fun s => s.H = H ∧ ∀ j, (h : j < l.length) → Gv l j l[j] = true) (by simp [Ah, Cb]) ?_ ?_
 ·rintro i s hi ⟨hH, ⟨g, k1⟩, k3, hn⟩
  simp only [go_sem, Nat.reduceEqDiff, reduceCtorEq, k1, k3, hl.len]
  cases c1 : decide ((i : Int) < (l.length : Int)) <;> simp only [go_sem, Nat.reduceEqDiff, reduceCtorEq, k1, k3, c1]
  ·have : i = l.length := by have := Au c1; omega
   subst this
   exact ⟨hH, fun j h => hn j h h⟩
  have hil : i < l.length := by have := As c1; omega
  have w1 := Ab ((i : Int) + 1) (by omega) (by omega)
  obtain ⟨id, p, o, ho, hr, hp, hia⟩ := hl.elem (B7 hil)
  have hr : (o.drop p).take 3 = Vt l[i] := hr
  unfold Vt at hr
  obtain ⟨w', hw', hsl⟩ := hl.take hi
  have a102 := Ax (cD (H := H) (x := l[i]))
  have a103 := Ax (pC (x := l[i]) hw')
  have next : Gv l i l[i] = true → ∀ j, j < i + 1 → (h : j < l.length) → Gv l j l[j] = true := fun h j hj hjl => by
   by_cases e : j = i
   ·subst e; exact h
   ·exact hn j (by omega) hjl
  refine Af ?_
  cases qa : Hk l[i] <;> simp only [go_sem, Nat.reduceEqDiff, reduceCtorEq, k1, k3, hia, hH, ho, hr, hp, a102, hw, qa]
  ·refine ⟨by rfl, ?_⟩
   (try simp only [go_sem, Nat.reduceEqDiff, reduceCtorEq, hH])
   rw [Mz fun h => by have := h.2.2 i hil; unfold Gv at this; rw [qa] at this; cases this]
  simp only [go_sem, Nat.reduceEqDiff, reduceCtorEq, k1, k3, hH, hsl, hia, ho, hr, hp, a103, hw]
  refine ⟨by rfl, ?_⟩
  cases qb : (l.take i).any (G3 · l[i]) <;> simp only [go_sem, Nat.reduceEqDiff, k1, k3, qb, w1, hH]
  ·exact ⟨hil, ⟨_, rfl⟩, by simp, next (by unfold Gv; rw [qa, qb]; rfl)⟩
  ·rw [Mz fun h => by have := h.2.2 i hil; unfold Gv at this; rw [qa, qb] at this; cases this]
 ·rintro s ⟨hH, hn⟩
  simp only [go_sem, hH]
  rw [aO.2 ⟨q1, h6, hn⟩]
end
theorem kW {l : List Re} {x : Re} : l.any (G3 x ·) = l.any (G3 · x) := by
 congr 1
 funext a
 rw [Bool.eq_iff_iff, Y3, Y3]
 exact eq_comm
theorem gF {l : List Pr} {x : Pr} : l.any (Kb x ·) = l.any (Kb · x) := by
 congr 1
 funext a
 rw [Bool.eq_iff_iff, fK, fK]
 exact eq_comm
theorem f75 {H : Hp} {w : Value} {q : Int} {l : List Re} (hl : Hl H w l) : Aw EE 75 [.agg #[.int .i64 q, w]] H (.bool (Ho q l)) := by
 refine Ag rfl rfl k75 (by simp [c75]) rfl fun m hw => ?_
 have hroom := hl.room
 simp only [go_sem, Nat.reduceEqDiff, reduceCtorEq, c75, hl.len]
 refine Ak l.length (fun i s => s.H = H ∧ (∃ g, s.ρ 1 = .bx g [.int .i64 q, w]) ∧ s.ρ 6 = .val w ∧ s.ρ 7 = .val (.int .i64 l.length) ∧ s.ρ 8 = .val (.int .i64 i) ∧ ∀ j, j < i → (h : j < l.length) → Gv l j l[j] = true)
  (fun s => s.H = H ∧ (∃ g, s.ρ 1 = .bx g [.int .i64 q, w]) ∧ ∀ j, (h : j < l.length) → Gv l j l[j] = true) (by simp [Ah, Cb]) ?_ ?_
 ·rintro i s hi ⟨hH, ⟨g, k1⟩, k6, k7, k8, hn⟩
  simp only [go_sem, Nat.reduceEqDiff, k1, k6, k7, k8]
  cases c1 : decide ((i : Int) < (l.length : Int)) <;> simp only [go_sem, Nat.reduceEqDiff, k1, k6, k7, k8, c1]
  ·have : i = l.length := by have := Au c1; omega
   subst this
   exact ⟨hH, ⟨_, rfl⟩, fun j h => hn j h h⟩
  have hil : i < l.length := by have := As c1; omega
  have w1 := Ab ((i : Int) + 1) (by omega) (by omega)
  obtain ⟨id, p, o, ho, hr, hp, hia⟩ := hl.elem (B7 hil)
  have hr : (o.drop p).take 3 = Vt l[i] := hr
  unfold Vt at hr
  obtain ⟨w', hw', hsl⟩ := hl.take hi
  have a114 := Ax (vK (H := H) (x := l[i]))
  have a115 := Ax (uJ (x := l[i]) hw')
  rw [kW] at a115
  have next : Gv l i l[i] = true → ∀ j, j < i + 1 → (h : j < l.length) → Gv l j l[j] = true := fun h j hj hjl => by
   by_cases e : j = i
   ·subst e; exact h
   ·exact hn j (by omega) hjl
  simp only [go_sem, Nat.reduceEqDiff, k1, k6, k7, k8, hia, hH, ho, hr, hp]
  refine Af ?_
  cases qa : Hk l[i] <;> simp only [go_sem, Nat.reduceEqDiff, k1, k6, k7, k8, a114, hw, qa]
  ·refine ⟨by rfl, ?_⟩
   (try simp only [go_sem, Nat.reduceEqDiff, hH])
   rw [Mz fun h => by have := h.2.2 i hil; unfold Gv at this; rw [qa] at this; cases this]
  simp only [go_sem, Nat.reduceEqDiff, reduceCtorEq, k1, k6, k7, k8, hsl, a115, hw]
  refine ⟨by rfl, ?_⟩
  cases qb : (l.take i).any (G3 · l[i]) <;> simp only [go_sem, Nat.reduceEqDiff, reduceCtorEq, k1, k6, k7, k8, qb, w1, hH]
  ·exact ⟨hil, ⟨_, rfl⟩, by simp, next (by unfold Gv; rw [qa, qb]; rfl)⟩
  ·rw [Mz fun h => by have := h.2.2 i hil; unfold Gv at this; rw [qa, qb] at this; cases this]
 ·rintro s ⟨hH, ⟨g, k1⟩, hn⟩
  simp only [go_sem, Nat.reduceEqDiff, reduceCtorEq, hH, k1, Lf, hw]
  cases q1 : A0 q (-1) 200000 <;> simp only [go_sem, Nat.reduceEqDiff, reduceCtorEq, q1, k1, hl.len]
  ·rw [Mz fun h => by have := h.1; rw [q1] at this; cases this]
  cases q2 : decide ((l.length : Int) ≤ 6)
  ·rw [Mz fun h => by have := h.2.1; have := Au q2; omega]
  ·rw [aO.2 ⟨q1, by have := As q2; omega, hn⟩]
section
def Qm (u : Bool) (x : Pr) : Bool := A0 x.1 0 2 && (A0 x.2 0 2 && !(u && decide (x.1 = x.2)))
theorem kX : Qm true = Lp := by funext x; simp [Qm, Lp]
theorem kN : Qm false = Oo := by funext x; simp [Qm, Oo]
def PaP (p : Pr → Bool) (l : List Pr) : Prop := l.length ≤ 6 ∧ ∀ i, (h : i < l.length) → (p l[i] && !((l.take i).any (Kb · l[i]))) = true
open Classical in
noncomputable def Kc (p : Pr → Bool) (l : List Pr) : Bool := decide (PaP p l)
theorem dR {p : Pr → Bool} {l : List Pr} : Kc p l = true ↔ PaP p l := by unfold Kc; simp
theorem Wf {p : Pr → Bool} {l : List Pr} (h : ¬ PaP p l) : Kc p l = false := by
 cases h2 : Kc p l with
 | false => rfl
 | true => exact absurd (dR.1 h2) h
theorem Qh {p : Pr → Bool} {l : List Pr} {i : Nat} (hi : i < l.length) (h : p l[i] = false) : Kc p l = false := Wf fun hp => by
 have := hp.2 i hi
 rw [h] at this
 cases this
theorem aC {p : Pr → Bool} {l : List Pr} {i : Nat} (hi : i < l.length) (h : (l.take i).any (Kb · l[i]) = true) : Kc p l = false := Wf fun hp => by
 have := hp.2 i hi
 rw [h] at this
 simp at this
theorem oJ {H : Hp} {v : Value} {l : List Pr} {k : Nat} {p : Pr → Bool} (hl : bI H v l) (hk : ∀ x : Pr, Aw EE k [.agg #[.int .i64 x.1, .int .i64 x.2]] H (.bool (p x))) :
  Aw EE 121 [v, .func (.func k) #[] #[]] H (.bool (Kc p l)) := by
 refine Ag rfl rfl xN (by simp [lD]) rfl fun m hw => ?_
 have hroom := hl.room
 simp only [go_sem, Nat.reduceEqDiff, lD, hl.len]
 refine Ak l.length (fun i s => s.H = H ∧ s.ρ 0 = .val v ∧ s.ρ 1 = .val (.func (.func k) #[] #[]) ∧ s.ρ 7 = .val v ∧ s.ρ 8 = .val (.int .i64 l.length) ∧ s.ρ 9 = .val (.int .i64 i) ∧ ∀ j, j < i → (h : j < l.length) → (p l[j] && !((l.take j).any (Kb · l[j]))) = true)
  (fun s => s.H = H ∧ s.ρ 0 = .val v ∧ ∀ j, (h : j < l.length) → (p l[j] && !((l.take j).any (Kb · l[j]))) = true) (by simp [Ah, Cb]) ?_ ?_
 ·rintro i s hi ⟨hH, k0, k1, k7, k8, k9, hn⟩
  simp only [go_sem, Nat.reduceEqDiff, k0, k1, k7, k8, k9]
  cases c1 : decide ((i : Int) < (l.length : Int)) <;> simp only [go_sem, Nat.reduceEqDiff, k0, k1, k7, k8, k9, c1]
  ·have : i = l.length := by have := Au c1; omega
   subst this
   exact ⟨hH, fun j h => hn j h h⟩
  have hil : i < l.length := by have := As c1; omega
  have w1 := Ab ((i : Int) + 1) (by omega) (by omega)
  obtain ⟨id, q, o, ho, hr, hp, hia⟩ := hl.elem (B7 hil)
  have hr : (o.drop q).take 2 = Ud l[i] := hr
  unfold Ud at hr
  obtain ⟨w', hw', hsl⟩ := hl.take hi
  have ak := Ax (hk l[i])
  have a143 := Ax (uU (x := l[i]) hw')
  rw [gF] at a143
  simp only [go_sem, Nat.reduceEqDiff, k0, k1, k7, k8, k9, hia, hH, ho, hr, hp]
  refine Af ?_
  cases qa : p l[i] <;> simp only [go_sem, Nat.reduceEqDiff, k0, k1, k7, k8, k9, ak, hw, qa, List.append_nil]
  ·refine ⟨by rfl, ?_⟩
   (try simp only [go_sem, Nat.reduceEqDiff, hH])
   rw [Qh hil qa]
  simp only [go_sem, Nat.reduceEqDiff, k0, k1, k7, k8, k9, hsl, a143, hw]
  refine ⟨by rfl, ?_⟩
  cases qb : (l.take i).any (Kb · l[i]) <;> simp only [go_sem, Nat.reduceEqDiff, reduceCtorEq, k0, k1, k7, k8, k9, qb, w1, hH]
  ·refine ⟨hil, by simp, fun j hj hjl => ?_⟩
   by_cases e : j = i
   ·subst e; rw [qa, qb]; rfl
   ·exact hn j (by omega) hjl
  ·rw [aC hil qb]
 ·rintro s ⟨hH, k0, hn⟩
  simp only [go_sem, hH, k0, hl.len]
  cases q2 : decide ((l.length : Int) ≤ 6)
  ·rw [Wf fun h => by have := h.1; have := Au q2; omega]
  ·rw [dR.2 ⟨by have := As q2; omega, hn⟩]
theorem eR {u : Bool} {x : Pr} (h : x.1 < 0 ∨ x.1 ≥ 3) : Qm u x = false := by
 unfold Qm
 cases q : A0 x.1 0 2 with
 | false => rfl
 | true => have := Bz.1 q; omega
theorem eQ {u : Bool} {x : Pr} (h : x.2 < 0 ∨ x.2 ≥ 3) : Qm u x = false := by
 unfold Qm
 cases q : A0 x.2 0 2 with
 | false => simp
 | true => have := Bz.1 q; omega
theorem pO {u : Bool} {x : Pr} (h : (u && decide (x.1 = x.2)) = true) : Qm u x = false := by
 unfold Qm
 rw [h]
 simp
theorem oF {u : Bool} {x : Pr} (h1 : ¬ x.1 < 0) (h2 : ¬ x.1 ≥ 3) (h3 : ¬ x.2 < 0) (h4 : ¬ x.2 ≥ 3) (h : (u && decide (x.1 = x.2)) = false) : Qm u x = true := by
 unfold Qm
 rw [h, Bz.2 ⟨by omega, by omega⟩, Bz.2 ⟨by omega, by omega⟩]
 rfl
theorem f97 {H : Hp} {v : Value} {l : List Pr} {u : Bool} (hl : bI H v l) : Aw EE 97 [v, .int .i64 3, .bool u] H (.bool (Kc (Qm u) l)) := by
 refine Ag rfl rfl k97 (by simp [wU]) rfl fun m hw => ?_
 have hroom := hl.room
 simp only [go_sem, Nat.reduceEqDiff, wU, hl.len]
 cases q2 : decide ((l.length : Int) > 6) <;> simp only [go_sem, Nat.reduceEqDiff, q2]
 rotate_left
 ·rw [Wf fun h => by have := h.1; have := As q2; omega]
 have h6 : l.length ≤ 6 := by have := Au q2; omega
 refine Ak l.length (fun i s => s.H = H ∧ s.ρ 0 = .val v ∧ s.ρ 1 = .val (.int .i64 3) ∧ s.ρ 2 = .val (.bool u) ∧ s.ρ 7 = .val (.int .i64 i) ∧ ∀ j, j < i → (h : j < l.length) → (Qm u l[j] && !((l.take j).any (Kb · l[j]))) = true)
  (fun s => s.H = H ∧ ∀ j, (h : j < l.length) → (Qm u l[j] && !((l.take j).any (Kb · l[j]))) = true) (by simp [Ah, Cb]) ?_ ?_
 ·rintro i s hi ⟨hH, k0, k1, k2, k7, hn⟩
  simp only [go_sem, Nat.reduceEqDiff, k0, k1, k2, k7, hl.len]
  cases c1 : decide ((i : Int) < (l.length : Int)) <;> simp only [go_sem, Nat.reduceEqDiff, k0, k1, k2, k7, c1]
  ·have : i = l.length := by have := Au c1; omega
   subst this
   exact ⟨hH, fun j h => hn j h h⟩
  have hil : i < l.length := by have := As c1; omega
  have w1 := Ab ((i : Int) + 1) (by omega) (by omega)
  obtain ⟨id, q, o, ho, hr, hp, hia⟩ := hl.elem (B7 hil)
  have hr : (o.drop q).take 2 = Ud l[i] := hr
  unfold Ud at hr
  obtain ⟨w', hw', hsl⟩ := hl.take hi
  have a139 := Ax (bP (x := l[i]) hw')
  simp only [go_sem, Nat.reduceEqDiff, k0, k1, k2, k7, hia, hH, ho, hr, hp]
  refine Af ?_
  cases qa : decide (l[i].1 < 0) <;> simp only [go_sem, Nat.reduceEqDiff, reduceCtorEq, k0, k1, k2, k7, qa]
  rotate_left
  ·refine ⟨by rfl, ?_⟩
   (try simp only [go_sem, Nat.reduceEqDiff, hH])
   rw [Qh hil (eR (.inl (As qa)))]
  cases qb : decide (l[i].1 ≥ 3) <;> simp only [go_sem, Nat.reduceEqDiff, k0, k1, k2, k7, qb]
  rotate_left
  ·refine ⟨by rfl, ?_⟩
   (try simp only [go_sem, Nat.reduceEqDiff, hH])
   rw [Qh hil (eR (.inr (As qb)))]
  cases qc : decide (l[i].2 < 0) <;> simp only [go_sem, Nat.reduceEqDiff, reduceCtorEq, k0, k1, k2, k7, qc]
  rotate_left
  ·refine ⟨by rfl, ?_⟩
   (try simp only [go_sem, Nat.reduceEqDiff, hH])
   rw [Qh hil (eQ (.inl (As qc)))]
  cases qd : decide (l[i].2 ≥ 3) <;> simp only [go_sem, Nat.reduceEqDiff, reduceCtorEq, k0, k1, k2, k7, qd]
  rotate_left
  ·refine ⟨by rfl, ?_⟩
   (try simp only [go_sem, Nat.reduceEqDiff, reduceCtorEq, hH])
   rw [Qh hil (eQ (.inr (As qd)))]
  have fin : ∀ b : Bool, (u && decide (l[i].1 = l[i].2)) = b → (b = true → Kc (Qm u) l = false) ∧ (b = false → Qm u l[i] = true) := fun b hb => ⟨fun h => Qh hil (pO (hb.trans h)), fun h => oF (Au qa) (Au qb) (Au qc) (Au qd) (hb.trans h)⟩
  have key : Qm u l[i] = true → ∀ b, (l.take i).any (Kb · l[i]) = b → (b = true → Kc (Qm u) l = false) ∧ (b = false → ∀ j, j < i + 1 → (h : j < l.length) → (Qm u l[j] && !((l.take j).any (Kb · l[j]))) = true) := fun h b hb => ⟨fun e => aC hil (hb.trans e), fun e j hj hjl => by
   by_cases e2 : j = i
   ·subst e2; rw [h, hb, e]; rfl
   ·exact hn j (by omega) hjl⟩
  cases u <;> simp only [go_sem, Nat.reduceEqDiff, reduceCtorEq, k0, k1, k2, k7, hsl, a139, hw]
  ·refine ⟨by rfl, ?_⟩
   have hp1 := (fin false rfl).2 rfl
   cases qe : (l.take i).any (Kb · l[i]) <;> simp only [go_sem, Nat.reduceEqDiff, reduceCtorEq, k0, k1, k2, k7, qe, w1, hH]
   ·exact ⟨hil, by simp, (key hp1 _ qe).2 rfl⟩
   ·rw [(key hp1 _ qe).1 rfl]
  ·cases qf : decide (l[i].1 = l[i].2) <;> simp only [go_sem, Nat.reduceEqDiff, reduceCtorEq, k0, k1, k2, k7, hsl, a139, hw, qf]
   ·refine ⟨by rfl, ?_⟩
    have hp1 := (fin false (by rw [qf]; rfl)).2 rfl
    cases qe : (l.take i).any (Kb · l[i]) <;> simp only [go_sem, Nat.reduceEqDiff, reduceCtorEq, k0, k1, k2, k7, qe, w1, hH]
    ·exact ⟨hil, by simp, (key hp1 _ qe).2 rfl⟩
    ·rw [(key hp1 _ qe).1 rfl]
   ·refine ⟨by rfl, ?_⟩
    (try simp only [go_sem, hH])
    rw [(fin true (by rw [qf]; rfl)).1 rfl]
 ·rintro s ⟨hH, hn⟩
  simp only [go_sem, hH]
  rw [dR.2 ⟨h6, hn⟩]
end
structure Ic where
 ur : List Int
 sr : List Int
 lk : List Pr
 px : List Pr
 skew : Int
noncomputable def Co (c : Ic) : Bool := decide (c.ur.length = 3) && (Kf c.ur 3 3 && (decide (c.sr.length = 3) && (Kf c.sr 3 3 && (Kc Lp c.lk && (Kc Oo c.px && A0 c.skew 0 20)))))
structure K5 (H : Hp) (c : Ic) (u s l p : Value) : Prop where
 ur : Bu H u c.ur
 sr : Bu H s c.sr
 lk : bI H l c.lk
 px : bI H p c.px
theorem K5.pre {H H' : Hp} {c : Ic} {u s l p : Value} (h : K5 H c u s l p) (hp : H <+: H') : K5 H' c u s l p := ⟨h.ur.pre hp, h.sr.pre hp, h.lk.pre hp, h.px.pre hp⟩
theorem xY (n : Nat) (k : Nat) : decide ((n : Int) = (k : Int)) = decide (n = k) := by rw [decide_eq_decide]; omega
theorem Q7 {l : List Int} : (decide ((l.length : Int) = 3)) = decide (l.length = 3) := xY _ 3
theorem fC {H : Hp} {v : Value} {l : List Int} (hl : Bu H v l) : Aw EE 62 [v, .int .i64 3, .int .i64 3] H (.bool (Kf l 3 3)) := qU (most := 3) hl
theorem Ym {H : Hp} {v : Value} {l : List Int} (hl : Bu H v l) : Aw EE 117 [v, .int .i64 3, .func (.func 118) #[] #[]] H (.bool (Kf l 3 3)) := hY (most := 3) (k := 118) (caps := #[]) (p := fun n => A0 n 0 2) hl fun n => lE
theorem iO {H : Hp} {c : Ic} {u s l p : Value} (h : K5 H c u s l p) : Aw EE 55 [.agg #[u, s, l, p, .int .i64 c.skew]] H (.bool (Co c)) := by
 refine Ag rfl rfl k55 (by simp [tL]) rfl fun m hw => ?_
 have a62 := Ax (fC h.ur)
 have b62 := Ax (fC h.sr)
 have a97 := Ax (f97 (u := true) h.lk)
 have b97 := Ax (f97 (u := false) h.px)
 rw [kX] at a97
 rw [kN] at b97
 simp only [go_sem, Nat.reduceEqDiff, reduceCtorEq, tL, h.ur.len, Q7, hw]
 cases q1 : decide (c.ur.length = 3) <;> simp only [go_sem, Nat.reduceEqDiff, reduceCtorEq, q1, a62, hw]
 ·rw [show Co c = false by unfold Co; rw [q1]; rfl]
 cases q2 : Kf c.ur 3 3 <;> simp only [go_sem, Nat.reduceEqDiff, reduceCtorEq, q2, h.sr.len, Q7]
 ·rw [show Co c = false by unfold Co; rw [q1, q2]; rfl]
 cases q3 : decide (c.sr.length = 3) <;> simp only [go_sem, Nat.reduceEqDiff, reduceCtorEq, q3, b62, hw]
 ·rw [show Co c = false by unfold Co; rw [q1, q2, q3]; rfl]
 cases q4 : Kf c.sr 3 3 <;> simp only [go_sem, Nat.reduceEqDiff, reduceCtorEq, q4, a97, hw]
 ·rw [show Co c = false by unfold Co; rw [q1, q2, q3, q4]; rfl]
 cases q5 : Kc Lp c.lk <;> simp only [go_sem, Nat.reduceEqDiff, reduceCtorEq, q5, b97, hw]
 ·rw [show Co c = false by unfold Co; rw [q1, q2, q3, q4, q5]; rfl]
 cases q6 : Kc Oo c.px <;> simp only [go_sem, Nat.reduceEqDiff, reduceCtorEq, q6, Cu, hw]
 ·rw [show Co c = false by unfold Co; rw [q1, q2, q3, q4, q5, q6]; rfl]
 ·rw [show Co c = A0 c.skew 0 20 by unfold Co; rw [q1, q2, q3, q4, q5, q6]; rfl]
theorem f80 {H : Hp} {c : Ic} {u s l p : Value} (h : K5 H c u s l p) : Aw EE 80 [.agg #[u, s, l, p, .int .i64 c.skew]] H (.bool (Co c)) := by
 refine Ag rfl rfl k80 (by simp [sG]) rfl fun m hw => ?_
 have a117 := Ax (Ym h.ur)
 have b117 := Ax (Ym h.sr)
 have a121 := Ax (oJ (k := 122) (p := Lp) h.lk fun x => tR)
 have b121 := Ax (oJ (k := 123) (p := Oo) h.px fun x => sT)
 simp only [go_sem, Nat.reduceEqDiff, reduceCtorEq, sG, a121, b121, hw]
 cases q5 : Kc Lp c.lk <;> simp only [go_sem, Nat.reduceEqDiff, reduceCtorEq, q5]
 ·rw [show Co c = false by unfold Co; rw [q5]; simp]
 cases q6 : Kc Oo c.px <;> simp only [go_sem, Nat.reduceEqDiff, reduceCtorEq, q6, h.ur.len, Q7]
 ·rw [show Co c = false by unfold Co; rw [q6]; simp]
 cases q1 : decide (c.ur.length = 3) <;> simp only [go_sem, Nat.reduceEqDiff, reduceCtorEq, q1, a117, hw]
 ·rw [show Co c = false by unfold Co; rw [q1]; rfl]
 cases q2 : Kf c.ur 3 3 <;> simp only [go_sem, Nat.reduceEqDiff, reduceCtorEq, q2, h.sr.len, Q7]
 ·rw [show Co c = false by unfold Co; rw [q1, q2]; rfl]
 cases q3 : decide (c.sr.length = 3) <;> simp only [go_sem, Nat.reduceEqDiff, reduceCtorEq, q3, b117, hw]
 ·rw [show Co c = false by unfold Co; rw [q1, q2, q3]; rfl]
 cases q4 : Kf c.sr 3 3 <;> simp only [go_sem, Nat.reduceEqDiff, reduceCtorEq, q4, Lf, hw]
 ·rw [show Co c = false by unfold Co; rw [q1, q2, q3, q4]; rfl]
 ·rw [show Co c = A0 c.skew 0 20 by unfold Co; rw [q1, q2, q3, q4, q5, q6]; rfl]
end Go.Proofs.YtglboiahgpfjdaaGreat.Ev
