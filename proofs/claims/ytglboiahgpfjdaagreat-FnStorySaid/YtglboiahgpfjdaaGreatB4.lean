/- Texts of the proof, laid one behind the other. -/
import Derived.Test.YtglboiahgpfjdaaGreatB3
namespace Go.Proofs.YtglboiahgpfjdaaGreat.Ev
set_option linter.all false
set_option maxRecDepth 4000
open Go
section
noncomputable def Zt (t : List ByteArray) (i : Nat) (x : ByteArray) : Bool := Ej x && !((t.take i).any fun a => decide (a = x))
def yX (t : List ByteArray) (k : List Int) : Prop := t.length ≤ 60 ∧ k.length ≤ 40 ∧ (∀ i, (h : i < t.length) → Zt t i t[i] = true) ∧ (∀ i, (h : i < k.length) → A0 k[i] 1 1000000 = true) ∧ ∀ i, (h : i + 1 < k.length) → k[i]'(by omega) < k[i + 1]
open Classical in
noncomputable def Im (t : List ByteArray) (k : List Int) : Bool := decide (yX t k)
theorem cV {t : List ByteArray} {k : List Int} : Im t k = true ↔ yX t k := by unfold Im; simp
theorem La {t : List ByteArray} {k : List Int} (h : ¬ yX t k) : Im t k = false := by
 cases h2 : Im t k with
 | false => rfl
 | true => exact absurd (cV.1 h2) h
theorem nW {t : List ByteArray} {k : List Int} {i : Nat} (hi : i < t.length) (h : Ej t[i] = false) : Im t k = false := La fun hp => by
 have := hp.2.2.1 i hi
 unfold Zt at this
 rw [h] at this
 cases this
theorem qA {t : List ByteArray} {k : List Int} {i : Nat} (hi : i < t.length) (h : ((t.take i).any fun a => decide (a = t[i])) = true) : Im t k = false := La fun hp => by
 have := hp.2.2.1 i hi
 unfold Zt at this
 rw [h] at this
 simp at this
theorem pJ {t : List ByteArray} {k : List Int} {i : Nat} (hi : i < k.length) (h : A0 k[i] 1 1000000 = false) : Im t k = false := La fun hp => by
 have := hp.2.2.2.1 i hi
 rw [h] at this
 cases this
theorem yY {t : List ByteArray} {k : List Int} {i : Nat} (hi : i + 1 < k.length) (h : k[i]'(by omega) ≥ k[i + 1]) : Im t k = false := La fun hp => by
 have := hp.2.2.2.2 i hi
 omega
theorem Vn {t : List ByteArray} {i : Nat} (hi : i < t.length) (hn : ∀ j, j < i → (h : j < t.length) → Zt t j t[j] = true) (qa : Ej t[i] = true) (qb : ((t.take i).any fun a => decide (a = t[i])) = false) : ∀ j, j < i + 1 → (h : j < t.length) → Zt t j t[j] = true := fun j hj hjl => by
 by_cases e : j = i
 ·subst e; unfold Zt; rw [qa, qb]; rfl
 ·exact hn j (by omega) hjl
theorem Ro {k : List Int} {i : Nat} (hi : i < k.length) (hn : ∀ j, j < i → (h : j < k.length) → A0 k[j] 1 1000000 = true) (qa : A0 k[i] 1 1000000 = true) : ∀ j, j < i + 1 → (h : j < k.length) → A0 k[j] 1 1000000 = true := fun j hj hjl => by
 by_cases e : j = i
 ·subst e; exact qa
 ·exact hn j (by omega) hjl
theorem kM {l : List ByteArray} {x : ByteArray} : (l.any fun y => decide (x = y)) = l.any fun a => decide (a = x) := by
 congr 1
 funext a
 rw [decide_eq_decide]
 exact eq_comm
theorem rF {H : Hp} {u w : Value} {t : List ByteArray} {k : List Int} (ht : Dz H u t) (hk : Bu H w k) (hz : ∀ z ∈ t, z.size ≤ 4611686018427387904) : Aw EE 56 [.agg #[u, w]] H (.bool (Im t k)) := by
 refine Ag rfl rfl k56 (by simp [c56]) rfl fun m hw => ?_
 have hroom := ht.room
 have hroom2 := hk.room
 simp only [go_sem, Nat.reduceEqDiff, reduceCtorEq, c56, ht.len]
 cases q1 : decide ((t.length : Int) > 60) <;> simp only [go_sem, Nat.reduceEqDiff, reduceCtorEq, q1, hk.len]
 rotate_left
 ·rw [La fun h => by have := h.1; have := As q1; omega]
 cases q2 : decide ((k.length : Int) > 40) <;> simp only [go_sem, Nat.reduceEqDiff, reduceCtorEq, q2]
 rotate_left
 ·rw [La fun h => by have := h.2.1; have := As q2; omega]
 have h1 : t.length ≤ 60 := by have := Au q1; omega
 have h2 : k.length ≤ 40 := by have := Au q2; omega
 refine Ak t.length (fun i s => s.H = H ∧ (∃ g, s.ρ 1 = .bx g [u, w]) ∧ s.ρ 3 = .val (.int .i64 i) ∧ ∀ j, j < i → (h : j < t.length) → Zt t j t[j] = true)
  (fun s => s.H = H ∧ (∃ g, s.ρ 1 = .bx g [u, w]) ∧ ∀ j, (h : j < t.length) → Zt t j t[j] = true) (by simp [Ah, Cb]) ?_ ?_
 ·rintro i s hi ⟨hH, ⟨g, k1⟩, k3, hn⟩
  simp only [go_sem, Nat.reduceEqDiff, reduceCtorEq, k1, k3, ht.len]
  cases c1 : decide ((i : Int) < (t.length : Int)) <;> simp only [go_sem, Nat.reduceEqDiff, reduceCtorEq, k1, k3, c1]
  ·have : i = t.length := by have := Au c1; omega
   subst this
   exact ⟨hH, ⟨_, rfl⟩, fun j h => hn j h h⟩
  have hil : i < t.length := by have := As c1; omega
  have w1 := Ab ((i : Int) + 1) (by omega) (by omega)
  obtain ⟨id, p, o, ho, hr, hia⟩ := ht.str (B7 hil)
  obtain ⟨w', hw', hsl⟩ := ht.take hi
  have a57 := Ax (X6 (H := H) (hz _ (List.getElem_mem hil)))
  have a98 := Ax (f98 (h := t[i]) hw')
  refine Af ?_
  cases qa : Ej t[i] <;> simp only [go_sem, Nat.reduceEqDiff, reduceCtorEq, k1, k3, hia, hH, ho, hr, a57, hw, qa]
  ·refine ⟨by rfl, ?_⟩
   (try simp only [go_sem, Nat.reduceEqDiff, reduceCtorEq, hH])
   rw [nW hil qa]
  simp only [go_sem, Nat.reduceEqDiff, reduceCtorEq, k1, k3, hH, hsl, hia, ho, hr, a98, hw]
  refine ⟨by rfl, ?_⟩
  cases qb : (t.take i).any fun a => decide (a = t[i]) <;> simp only [go_sem, Nat.reduceEqDiff, reduceCtorEq, k1, k3, qb, w1, hH]
  ·exact ⟨hil, ⟨_, rfl⟩, by simp, Vn hil hn qa qb⟩
  ·rw [qA hil qb]
 ·rintro s ⟨hH, ⟨g, k1⟩, hT⟩
  simp only [go_sem, Nat.reduceEqDiff, reduceCtorEq, k1]
  refine Ak k.length (fun i s => s.H = H ∧ (∃ g, s.ρ 1 = .bx g [u, w]) ∧ s.ρ 4 = .val (.int .i64 i) ∧ (∀ j, j < i → (h : j < k.length) → A0 k[j] 1 1000000 = true) ∧ ∀ j, j + 1 < i → (h : j + 1 < k.length) → k[j]'(by omega) < k[j + 1])
   (fun s => s.H = H ∧ (∀ j, (h : j < k.length) → A0 k[j] 1 1000000 = true) ∧ ∀ j, (h : j + 1 < k.length) → k[j]'(by omega) < k[j + 1]) ⟨hH, ⟨g, by simp [Ah, k1]⟩, by simp [Ah], by simp, by simp⟩ ?_ ?_
  ·rintro i s hi ⟨hH, ⟨g, k1⟩, k4, hn, hm⟩
   simp only [go_sem, Nat.reduceEqDiff, reduceCtorEq, k1, k4, hk.len]
   cases c1 : decide ((i : Int) < (k.length : Int)) <;> simp only [go_sem, Nat.reduceEqDiff, reduceCtorEq, k1, k4, c1]
   ·have : i = k.length := by have := Au c1; omega
    subst this
    exact ⟨hH, fun j h => hn j h h, fun j h => hm j h h⟩
   have hil : i < k.length := by have := As c1; omega
   have w1 := Ab ((i : Int) + 1) (by omega) (by omega)
   obtain ⟨id, p, o, ho, hr, hia⟩ := hk.int (B7 hil)
   refine Af ?_
   cases qa : A0 k[i] 1 1000000 <;> simp only [go_sem, Nat.reduceEqDiff, reduceCtorEq, k1, k4, hia, hH, ho, hr, Cu, hw, qa]
   ·refine ⟨by rfl, ?_⟩
    (try simp only [go_sem, Nat.reduceEqDiff, reduceCtorEq, hH])
    rw [pJ hil qa]
   cases i with
   | zero =>
    simp only [go_sem, Nat.reduceEqDiff, reduceCtorEq, k1, k4, hH, Int.ofNat_zero, Int.reduceGT, Int.ofNat_eq_natCast, decide_false, Int.natCast_zero, show decide (((0 : Nat) : Int) > 0) = false from rfl, show (((0 : Nat) : Int)) = 0 from rfl, w1]
    refine ⟨by rfl, ?_⟩
    have w1 : IntKind.i64.wrap (0 + 1) = 1 := rfl
    (try simp only [go_sem, Nat.reduceEqDiff, reduceCtorEq, k1, k4, hH, w1])
    exact ⟨hil, ⟨_, rfl⟩, rfl, Ro hil hn qa, fun j h => by omega⟩
   | succ j =>
    have hpos : decide (((j + 1 : Nat) : Int) > 0) = true := decide_eq_true (by omega)
    have wm : IntKind.i64.wrap (((j + 1 : Nat) : Int) - 1) = (j : Int) := by rw [Ab _ (by omega) (by omega)]; omega
    obtain ⟨id2, p2, o2, ho2, hr2, hia2⟩ := hk.int (B7 (show j < k.length by omega))
    simp only [go_sem, Nat.reduceEqDiff, reduceCtorEq, k1, k4, hH, hpos, wm, hia, ho, hr, hia2, ho2, hr2]
    refine ⟨by rfl, ?_⟩
    cases qb : decide (k[j] ≥ k[j + 1]) <;> simp only [go_sem, Nat.reduceEqDiff, k1, k4, qb, w1, hH]
    ·refine ⟨hil, ⟨_, rfl⟩, by simp, Ro hil hn qa, fun x hx hxl => ?_⟩
     by_cases e : x = j
     ·subst e; have := Au qb; omega
     ·exact hm x (by omega) hxl
    ·rw [yY hil (As qb)]
  ·rintro s ⟨hH, hn, hm⟩
   simp only [go_sem, hH]
   rw [cV.2 ⟨h1, h2, hT, hn, hm⟩]
theorem f83 {H : Hp} {u w : Value} {t : List ByteArray} {k : List Int} (ht : Dz H u t) (hk : Bu H w k) (hz : ∀ z ∈ t, z.size ≤ 4611686018427387904) : Aw EE 83 [.agg #[u, w]] H (.bool (Im t k)) := by
 refine Ag rfl rfl k83 (by simp [tE]) rfl fun m hw => ?_
 have hroom := ht.room
 have hroom2 := hk.room
 simp only [go_sem, Nat.reduceEqDiff, reduceCtorEq, tE, ht.len]
 refine Ak t.length (fun i s => s.H = H ∧ (∃ g, s.ρ 1 = .bx g [u, w]) ∧ s.ρ 8 = .val u ∧ s.ρ 9 = .val (.int .i64 t.length) ∧ s.ρ 10 = .val (.int .i64 i) ∧ ∀ j, j < i → (h : j < t.length) → Zt t j t[j] = true)
  (fun s => s.H = H ∧ (∃ g, s.ρ 1 = .bx g [u, w]) ∧ ∀ j, (h : j < t.length) → Zt t j t[j] = true) (by simp [Ah, Cb]) ?_ ?_
 ·rintro i s hi ⟨hH, ⟨g, k1⟩, k8, k9, k10, hn⟩
  simp only [go_sem, Nat.reduceEqDiff, reduceCtorEq, k1, k8, k9, k10]
  cases c1 : decide ((i : Int) < (t.length : Int)) <;> simp only [go_sem, Nat.reduceEqDiff, reduceCtorEq, k1, k8, k9, k10, c1]
  ·have : i = t.length := by have := Au c1; omega
   subst this
   exact ⟨hH, ⟨_, rfl⟩, fun j h => hn j h h⟩
  have hil : i < t.length := by have := As c1; omega
  have w1 := Ab ((i : Int) + 1) (by omega) (by omega)
  obtain ⟨id, p, o, ho, hr, hia⟩ := ht.str (B7 hil)
  obtain ⟨w', hw', hsl⟩ := ht.take hi
  have a79 := Ax (f79 (H := H) (hz _ (List.getElem_mem hil)))
  have a124 := Ax (Abt (h := t[i]) hw')
  rw [kM] at a124
  cases qa : Ej t[i] <;> simp only [go_sem, Nat.reduceEqDiff, reduceCtorEq, k1, k8, k9, k10, hia, hH, ho, hr, a79, hw, qa]
  ·rw [nW hil qa]
  simp only [go_sem, Nat.reduceEqDiff, reduceCtorEq, k1, k8, k9, k10, hH, hsl, hia, ho, hr, a124, hw]
  cases qb : (t.take i).any fun a => decide (a = t[i]) <;> simp only [go_sem, Nat.reduceEqDiff, reduceCtorEq, k1, k8, k9, k10, qb, w1, hH]
  ·exact ⟨hil, ⟨_, rfl⟩, by simp, Vn hil hn qa qb⟩
  ·rw [qA hil qb]
 ·rintro s ⟨hH, ⟨g, k1⟩, hT⟩
  simp only [go_sem, Nat.reduceEqDiff, reduceCtorEq, k1, hk.len]
  refine Ak k.length (fun i s => s.H = H ∧ (∃ g, s.ρ 1 = .bx g [u, w]) ∧ s.ρ 28 = .val w ∧ s.ρ 29 = .val (.int .i64 k.length) ∧ s.ρ 30 = .val (.int .i64 i) ∧ (∀ j, j < i → (h : j < k.length) → A0 k[j] 1 1000000 = true))
   (fun s => s.H = H ∧ (∃ g, s.ρ 1 = .bx g [u, w]) ∧ (∀ j, (h : j < k.length) → A0 k[j] 1 1000000 = true)) ⟨hH, ⟨g, by simp [Ah, k1]⟩, by simp [Ah], by simp [Ah], by simp [Ah], by simp⟩ ?_ ?_
  ·rintro i s hi ⟨hH, ⟨g, k1⟩, qO, rG, rD, hn⟩
   simp only [go_sem, Nat.reduceEqDiff, reduceCtorEq, k1, qO, rG, rD]
   cases c1 : decide ((i : Int) < (k.length : Int)) <;> simp only [go_sem, Nat.reduceEqDiff, reduceCtorEq, k1, qO, rG, rD, c1]
   ·have : i = k.length := by have := Au c1; omega
    subst this
    exact ⟨hH, ⟨_, rfl⟩, fun j h => hn j h h⟩
   have hil : i < k.length := by have := As c1; omega
   have w1 := Ab ((i : Int) + 1) (by omega) (by omega)
   obtain ⟨id, p, o, ho, hr, hia⟩ := hk.int (B7 hil)
   cases qa : A0 k[i] 1 1000000 <;> simp only [go_sem, Nat.reduceEqDiff, reduceCtorEq, k1, qO, rG, rD, hia, hH, ho, hr, Wa, hw, qa, w1]
   ·rw [pJ hil qa]
   ·exact ⟨hil, ⟨_, rfl⟩, by simp, Ro hil hn qa⟩
  ·rintro s ⟨hH, ⟨g, k1⟩, hn⟩
   simp only [go_sem, Nat.reduceEqDiff, reduceCtorEq, hH, k1, ht.len]
   cases q1 : decide ((t.length : Int) ≤ 60) <;> simp only [go_sem, Nat.reduceEqDiff, reduceCtorEq, k1, q1, hk.len]
   ·rw [La fun h => by have := h.1; have := Au q1; omega]
   cases q2 : decide ((k.length : Int) ≤ 40) <;> simp only [go_sem, Nat.reduceEqDiff, reduceCtorEq, k1, q2]
   ·rw [La fun h => by have := h.2.1; have := Au q2; omega]
   refine Aa (fun m' h => uB hk m' h) rfl hw fun r H' ⟨⟨b, e, hb⟩, e2⟩ => ?_
   subst e; subst e2
   simp only [go_sem, Nat.reduceEqDiff]
   cases b
   ·rw [La fun h => by have := hb.2 h.2.2.2.2; cases this]
   ·rw [cV.2 ⟨by have := As q1; omega, by have := As q2; omega, hT, hn, hb.1 rfl⟩]
end
structure I7 where
 sv : Int
 cl : Int
 ky : Int
 op : Int
 nw : Int
 au : Re
 rs : Re
 pa : List Int
 vi : List Int
 lk : Int
 tk : ByteArray
def fE (H : Hp) (a : I7) (cs : List Value) : Prop := ∃ p v, cs = [.int .i64 a.sv, .int .i64 a.cl, .int .i64 a.ky, .int .i64 a.op, .int .i64 a.nw, .int .i64 a.au.1, .int .i64 a.au.2.1, .int .i64 a.au.2.2, .int .i64 a.rs.1, .int .i64 a.rs.2.1, .int .i64 a.rs.2.2, p, v, .int .i64 a.lk, .string a.tk] ∧ Bu H p a.pa ∧ Bu H v a.vi
abbrev Ch := Int × List Re
def gR (H : Hp) (x : Ch) (cs : List Value) : Prop := ∃ r, cs = [.int .i64 x.1, r] ∧ Hl H r x.2
def bL (x : Wt) : List Value := [.bool x.1, .int .i64 x.2.1, .int .i64 x.2.2.1, .int .i64 x.2.2.2]
def T5 (x : Cr) : List Value := [.int .i64 x.1, .int .i64 x.2.1, .int .i64 x.2.2.1, .int .i64 x.2.2.2.1, .int .i64 x.2.2.2.2.1.1, .int .i64 x.2.2.2.2.1.2.1, .int .i64 x.2.2.2.2.1.2.2, .string x.2.2.2.2.2]
structure Pb where
 kd : Int
 rm : Int
 bq : Int
 cl : Int
 sv : Int
 ky : Int
 pa : Int
 ev : Int
 rs : Re
def Rt (x : Pb) : List Value := [.int .i64 x.kd, .int .i64 x.rm, .int .i64 x.bq, .int .i64 x.cl, .int .i64 x.sv, .int .i64 x.ky, .int .i64 x.pa, .int .i64 x.ev, .int .i64 x.rs.1, .int .i64 x.rs.2.1, .int .i64 x.rs.2.2]
structure Wd where
 cf : Ic
 now : Int
 fresh : Int
 net : List ByteArray
 tms : List ByteArray
 kys : List Int
 wts : List Wt
 crs : List Cr
 chs : List Ch
 log : List Pb
 acs : List I7
 lks : List Int
structure T7 (H : Hp) (w : Wd) (u s l p n t k a c h e x d : Value) : Prop where
 cf : K5 H w.cf u s l p
 net : Dz H n w.net
 tms : Dz H t w.tms
 kys : Bu H k w.kys
 wts : Sl (En bL) 4 H a w.wts
 crs : Sl (En T5) 8 H c w.crs
 chs : Sl (gR H) 2 H h w.chs
 log : Sl (En Rt) 11 H e w.log
 acs : Sl (fE H) 15 H x w.acs
 lks : Bu H d w.lks
structure Vk (w : Wd) : Prop where
 net : ∀ z ∈ w.net, z.size ≤ 4611686018427387904
 tms : ∀ z ∈ w.tms, z.size ≤ 4611686018427387904
 crs : ∀ z ∈ w.crs, z.2.2.2.2.2.size ≤ 4611686018427387904 ∧ X5 z.2.2.1
noncomputable def E1 (n : Int) (a : I7) : Bool := A0 a.sv 0 2 && (A0 a.cl 0 5 && (A0 a.lk 0 n && (Kf a.pa 6 3 && Kf a.vi 4 3)))
noncomputable def A6 (w : Wd) : Bool := Co w.cf && (A0 w.now 0 100000 && (A0 w.fresh 101 1000000 && (decide (w.net.length ≤ 50) && (Im w.tms w.kys && (decide (w.wts.length = 6) && (decide (w.crs.length ≤ 30) && (decide (w.chs.length = 3) && (decide (w.log.length ≤ 40) && (decide (w.acs.length ≤ 40) && (decide (w.lks.length ≤ 40) &&
 (w.net.all Ej && (w.wts.all Ig && (w.crs.all C4 && (w.chs.all (fun x => Ho x.1 x.2) && w.acs.all (E1 w.lks.length)))))))))))))))
theorem fE.pre {H H' : Hp} {a : I7} {cs : List Value} (h : fE H a cs) (hp : H <+: H') : fE H' a cs := by
 obtain ⟨p, v, e, a, b⟩ := h
 exact ⟨p, v, e, a.pre hp, b.pre hp⟩
theorem gR.pre {H H' : Hp} {a : Ch} {cs : List Value} (h : gR H a cs) (hp : H <+: H') : gR H' a cs := by
 obtain ⟨r, e, a⟩ := h
 exact ⟨r, e, a.pre hp⟩
theorem T7.pre {H H' : Hp} {w : Wd} {u s l p n t k a c h e x d : Value} (q : T7 H w u s l p n t k a c h e x d) (hp : H <+: H') : T7 H' w u s l p n t k a c h e x d :=
 ⟨q.cf.pre hp, q.net.pre hp, q.tms.pre hp, q.kys.pre hp, q.wts.pre hp, q.crs.pre hp, (q.chs.pre hp).frame (fun _ _ _ h => h.pre hp) (fun _ _ _ _ _ _ => rfl), q.log.pre hp, (q.acs.pre hp).frame (fun _ _ _ h => h.pre hp) (fun _ _ _ _ _ _ => rfl), q.lks.pre hp⟩
theorem E8 {α : Type} {l : List α} {f : α → Bool} {i : Nat} (hi : i < l.length) (hn : (l.take i).all f = true) (h : f l[i] = true) : (l.take (i + 1)).all f = true := by
 rw [List.take_succ_eq_append_getElem hi, List.all_append, hn]
 simp [h]
theorem Fo {α : Type} {l : List α} {f : α → Bool} {i : Nat} (hi : i < l.length) (h : f l[i] = false) : l.all f = false := List.all_eq_false.2 ⟨_, List.getElem_mem hi, by simp [h]⟩
theorem pF {H : Hp} {v : Value} {l : List Int} (hl : Bu H v l) : Aw EE 62 [v, .int .i64 6, .int .i64 3] H (.bool (Kf l 6 3)) := qU (most := 6) hl
theorem oD {H : Hp} {v : Value} {l : List Int} (hl : Bu H v l) : Aw EE 62 [v, .int .i64 4, .int .i64 3] H (.bool (Kf l 4 3)) := qU (most := 4) hl
theorem jJ {H : Hp} {v : Value} {l : List Int} (hl : Bu H v l) : Aw EE 117 [v, .int .i64 6, .func (.func 118) #[] #[]] H (.bool (Kf l 6 3)) := hY (most := 6) (k := 118) (caps := #[]) (p := fun n => A0 n 0 2) hl fun n => lE
theorem jQ {H : Hp} {v : Value} {l : List Int} (hl : Bu H v l) : Aw EE 117 [v, .int .i64 4, .func (.func 116) #[] #[]] H (.bool (Kf l 4 3)) := hY (most := 4) (k := 116) (caps := #[]) (p := fun n => A0 n 0 2) hl fun n => oW
theorem rA {H : Hp} {w : Wd} {u s l p n t k a c h e x d : Value} (q : T7 H w u s l p n t k a c h e x d) (z : Vk w) : Aw EE 19 [.agg #[u, s, l, p, .int .i64 w.cf.skew, .int .i64 w.now, .int .i64 w.fresh, n, t, k, a, c, h, e, x, d]] H (.bool (A6 w)) := by
 refine Ag rfl rfl T6 (by simp [xD]) rfl fun m hw => ?_
 have r1 := q.net.room; have r2 := q.wts.room; have r3 := q.crs.room; have r4 := q.chs.room; have r5 := q.acs.room
 have a55 := Ax (iO q.cf)
 have a56 := Ax (rF q.tms q.kys z.tms)
 simp only [go_sem, ↓reduceIte, Nat.reduceEqDiff, reduceCtorEq, Nat.reduceLeDiff, xD, a55, hw]
 cases q1 : Co w.cf <;> simp only [go_sem, ↓reduceIte, Nat.reduceEqDiff, reduceCtorEq, Nat.reduceLeDiff, q1, Cu, hw]
 ·rw [show A6 w = false by unfold A6; rw [q1]; rfl]
 cases q2 : A0 w.now 0 100000 <;> simp only [go_sem, ↓reduceIte, Nat.reduceEqDiff, reduceCtorEq, q2, Cu, hw]
 ·rw [show A6 w = false by unfold A6; rw [q2]; simp]
 cases q3 : A0 w.fresh 101 1000000 <;> simp only [go_sem, ↓reduceIte, Nat.reduceEqDiff, reduceCtorEq, Nat.reduceLeDiff, q3, q.net.len]
 ·rw [show A6 w = false by unfold A6; rw [q3]; simp]
 cases q4 : decide ((w.net.length : Int) > 50) <;> simp only [go_sem, ↓reduceIte, Nat.reduceEqDiff, reduceCtorEq, Nat.reduceLeDiff, q4, a56, hw]
 rotate_left
 ·rw [show A6 w = false by unfold A6; rw [decide_eq_false (show ¬ w.net.length ≤ 50 by have := As q4; omega)]; simp]
 cases q5 : Im w.tms w.kys <;> simp only [go_sem, ↓reduceIte, Nat.reduceEqDiff, reduceCtorEq, Nat.reduceLeDiff, q5, q.wts.len]
 ·rw [show A6 w = false by unfold A6; rw [q5]; simp]
 cases q6 : decide ((w.wts.length : Int) = 6) <;> simp only [go_sem, ↓reduceIte, Nat.reduceEqDiff, reduceCtorEq, q6, q.crs.len]
 ·rw [show A6 w = false by unfold A6; rw [decide_eq_false (show ¬ w.wts.length = 6 by have := Au q6; omega)]; simp]
 cases q7 : decide ((w.crs.length : Int) > 30) <;> simp only [go_sem, ↓reduceIte, Nat.reduceEqDiff, reduceCtorEq, q7, q.chs.len]
 rotate_left
 ·rw [show A6 w = false by unfold A6; rw [decide_eq_false (show ¬ w.crs.length ≤ 30 by have := As q7; omega)]; simp]
 cases q8 : decide ((w.chs.length : Int) = 3) <;> simp only [go_sem, ↓reduceIte, Nat.reduceEqDiff, reduceCtorEq, q8, q.log.len]
 ·rw [show A6 w = false by unfold A6; rw [decide_eq_false (show ¬ w.chs.length = 3 by have := Au q8; omega)]; simp]
 cases q9 : decide ((w.log.length : Int) > 40) <;> simp only [go_sem, ↓reduceIte, Nat.reduceEqDiff, reduceCtorEq, q9, q.acs.len]
 rotate_left
 ·rw [show A6 w = false by unfold A6; rw [decide_eq_false (show ¬ w.log.length ≤ 40 by have := As q9; omega)]; simp]
 cases q10 : decide ((w.acs.length : Int) > 40) <;> simp only [go_sem, ↓reduceIte, Nat.reduceEqDiff, reduceCtorEq, q10, q.lks.len]
 rotate_left
 ·rw [show A6 w = false by unfold A6; rw [decide_eq_false (show ¬ w.acs.length ≤ 40 by have := As q10; omega)]; simp]
 cases q11 : decide ((w.lks.length : Int) > 40) <;> simp only [go_sem, ↓reduceIte, Nat.reduceEqDiff, reduceCtorEq, q11]
 rotate_left
 ·rw [show A6 w = false by unfold A6; rw [decide_eq_false (show ¬ w.lks.length ≤ 40 by have := As q11; omega)]; simp]
 have e4 : decide (w.net.length ≤ 50) = true := decide_eq_true (by have := Au q4; omega)
 have e6 : decide (w.wts.length = 6) = true := decide_eq_true (by have := As q6; omega)
 have e7 : decide (w.crs.length ≤ 30) = true := decide_eq_true (by have := Au q7; omega)
 have e8 : decide (w.chs.length = 3) = true := decide_eq_true (by have := As q8; omega)
 have e9 : decide (w.log.length ≤ 40) = true := decide_eq_true (by have := Au q9; omega)
 have e10 : decide (w.acs.length ≤ 40) = true := decide_eq_true (by have := Au q10; omega)
 have e11 : decide (w.lks.length ≤ 40) = true := decide_eq_true (by have := Au q11; omega)
 have key : A6 w = (w.net.all Ej && (w.wts.all Ig && (w.crs.all C4 && (w.chs.all (fun x => Ho x.1 x.2) && w.acs.all (E1 w.lks.length))))) := by
  unfold A6
  rw [q1, q2, q3, e4, q5, e6, e7, e8, e9, e10, e11]
  rfl
 clear q1 q2 q3 q4 q5 q6 q7 q8 q9 q10 q11 a55 a56
 refine Ak w.net.length (fun i s' => s'.H = H ∧ (∃ g, s'.ρ 1 = .bx g [u, s, l, p, .int .i64 w.cf.skew, .int .i64 w.now, .int .i64 w.fresh, n, t, k, a, c, h, e, x, d]) ∧ s'.ρ 3 = .val (.int .i64 i) ∧ (w.net.take i).all Ej = true)
  (fun s' => s'.H = H ∧ (∃ g, s'.ρ 1 = .bx g [u, s, l, p, .int .i64 w.cf.skew, .int .i64 w.now, .int .i64 w.fresh, n, t, k, a, c, h, e, x, d]) ∧ w.net.all Ej = true) (by simp [Ah, Cb]) ?_ ?_
 ·rintro i s' hi ⟨hH, ⟨g, k1⟩, kc, hn⟩
  simp only [go_sem, ↓reduceIte, Nat.reduceEqDiff, reduceCtorEq, k1, kc, q.net.len]
  cases c1 : decide ((i : Int) < (w.net.length : Int)) <;> simp only [go_sem, ↓reduceIte, Nat.reduceEqDiff, reduceCtorEq, k1, kc, c1]
  ·rw [List.take_of_length_le (by have := Au c1; omega)] at hn
   exact ⟨hH, ⟨_, rfl⟩, hn⟩
  have hil : i < w.net.length := by have := As c1; omega
  have w1 := Ab ((i : Int) + 1) (by omega) (by omega)
  obtain ⟨id, b, o, ho, hr, hia⟩ := q.net.str (B7 hil)
  have ak := Ax (X6 (H := H) (z.net _ (List.getElem_mem hil)))
  cases qa : Ej w.net[i] <;> simp only [go_sem, ↓reduceIte, Nat.reduceEqDiff, reduceCtorEq, k1, kc, hia, ho, hr, hH, ak, hw, qa, w1]
  ·have := Fo (f := Ej) hil qa
   rw [key, this]
   try simp
  ·exact ⟨hil, ⟨_, rfl⟩, by simp, E8 (f := Ej) hil hn qa⟩
 rintro s' ⟨hH, ⟨g, k1⟩, A_net⟩
 simp only [go_sem, ↓reduceIte, Nat.reduceEqDiff, reduceCtorEq, k1]
 refine Ak w.wts.length (fun i s' => s'.H = H ∧ (∃ g, s'.ρ 1 = .bx g [u, s, l, p, .int .i64 w.cf.skew, .int .i64 w.now, .int .i64 w.fresh, n, t, k, a, c, h, e, x, d]) ∧ s'.ρ 4 = .val (.int .i64 i) ∧ (w.wts.take i).all Ig = true)
  (fun s' => s'.H = H ∧ (∃ g, s'.ρ 1 = .bx g [u, s, l, p, .int .i64 w.cf.skew, .int .i64 w.now, .int .i64 w.fresh, n, t, k, a, c, h, e, x, d]) ∧ w.wts.all Ig = true) ⟨hH, ⟨g, by simp [Ah, k1]⟩, by simp [Ah], by simp⟩ ?_ ?_
 ·rintro i s' hi ⟨hH, ⟨g, k1⟩, kc, hn⟩
  simp only [go_sem, ↓reduceIte, Nat.reduceEqDiff, reduceCtorEq, k1, kc, q.wts.len]
  cases c1 : decide ((i : Int) < (w.wts.length : Int)) <;> simp only [go_sem, ↓reduceIte, Nat.reduceEqDiff, reduceCtorEq, k1, kc, c1]
  ·rw [List.take_of_length_le (by have := Au c1; omega)] at hn
   exact ⟨hH, ⟨_, rfl⟩, hn⟩
  have hil : i < w.wts.length := by have := As c1; omega
  have w1 := Ab ((i : Int) + 1) (by omega) (by omega)
  obtain ⟨id, b, o, ho, hr, hb, hia⟩ := q.wts.elem (B7 hil)
  have hr : (o.drop b).take 4 = bL w.wts[i] := hr
  unfold bL at hr
  have ak := Ax (f58 (H := H) (x := w.wts[i]))
  cases qa : Ig w.wts[i] <;> simp only [go_sem, ↓reduceIte, Nat.reduceEqDiff, reduceCtorEq, k1, kc, hia, ho, hr, hb, hH, ak, hw, qa, w1]
  ·have := Fo (f := Ig) hil qa
   rw [key, A_net, this]
   try simp
  ·exact ⟨hil, ⟨_, rfl⟩, by simp, E8 (f := Ig) hil hn qa⟩
 rintro s' ⟨hH, ⟨g, k1⟩, A_wts⟩
 simp only [go_sem, ↓reduceIte, Nat.reduceEqDiff, reduceCtorEq, k1]
 refine Ak w.crs.length (fun i s' => s'.H = H ∧ (∃ g, s'.ρ 1 = .bx g [u, s, l, p, .int .i64 w.cf.skew, .int .i64 w.now, .int .i64 w.fresh, n, t, k, a, c, h, e, x, d]) ∧ s'.ρ 5 = .val (.int .i64 i) ∧ (w.crs.take i).all C4 = true)
  (fun s' => s'.H = H ∧ (∃ g, s'.ρ 1 = .bx g [u, s, l, p, .int .i64 w.cf.skew, .int .i64 w.now, .int .i64 w.fresh, n, t, k, a, c, h, e, x, d]) ∧ w.crs.all C4 = true) ⟨hH, ⟨g, by simp [Ah, k1]⟩, by simp [Ah], by simp⟩ ?_ ?_
 ·rintro i s' hi ⟨hH, ⟨g, k1⟩, kc, hn⟩
  simp only [go_sem, ↓reduceIte, Nat.reduceEqDiff, reduceCtorEq, k1, kc, q.crs.len]
  cases c1 : decide ((i : Int) < (w.crs.length : Int)) <;> simp only [go_sem, ↓reduceIte, Nat.reduceEqDiff, reduceCtorEq, k1, kc, c1]
  ·rw [List.take_of_length_le (by have := Au c1; omega)] at hn
   exact ⟨hH, ⟨_, rfl⟩, hn⟩
  have hil : i < w.crs.length := by have := As c1; omega
  have w1 := Ab ((i : Int) + 1) (by omega) (by omega)
  obtain ⟨id, b, o, ho, hr, hb, hia⟩ := q.crs.elem (B7 hil)
  have hr : (o.drop b).take 8 = T5 w.crs[i] := hr
  unfold T5 at hr
  have ak := Ax (f59 (H := H) (x := w.crs[i]) (z.crs _ (List.getElem_mem hil)).1)
  cases qa : C4 w.crs[i] <;> simp only [go_sem, ↓reduceIte, Nat.reduceEqDiff, reduceCtorEq, k1, kc, hia, ho, hr, hb, hH, ak, hw, qa, w1]
  ·have := Fo (f := C4) hil qa
   rw [key, A_net, A_wts, this]
   try simp
  ·exact ⟨hil, ⟨_, rfl⟩, by simp, E8 (f := C4) hil hn qa⟩
 rintro s' ⟨hH, ⟨g, k1⟩, A_crs⟩
 simp only [go_sem, ↓reduceIte, Nat.reduceEqDiff, reduceCtorEq, k1]
 refine Ak w.chs.length (fun i s' => s'.H = H ∧ (∃ g, s'.ρ 1 = .bx g [u, s, l, p, .int .i64 w.cf.skew, .int .i64 w.now, .int .i64 w.fresh, n, t, k, a, c, h, e, x, d]) ∧ s'.ρ 6 = .val (.int .i64 i) ∧ (w.chs.take i).all (fun x => Ho x.1 x.2) = true)
  (fun s' => s'.H = H ∧ (∃ g, s'.ρ 1 = .bx g [u, s, l, p, .int .i64 w.cf.skew, .int .i64 w.now, .int .i64 w.fresh, n, t, k, a, c, h, e, x, d]) ∧ w.chs.all (fun x => Ho x.1 x.2) = true) ⟨hH, ⟨g, by simp [Ah, k1]⟩, by simp [Ah], by simp⟩ ?_ ?_
 ·rintro i s' hi ⟨hH, ⟨g, k1⟩, kc, hn⟩
  simp only [go_sem, ↓reduceIte, Nat.reduceEqDiff, reduceCtorEq, k1, kc, q.chs.len]
  cases c1 : decide ((i : Int) < (w.chs.length : Int)) <;> simp only [go_sem, ↓reduceIte, Nat.reduceEqDiff, reduceCtorEq, k1, kc, c1]
  ·rw [List.take_of_length_le (by have := Au c1; omega)] at hn
   exact ⟨hH, ⟨_, rfl⟩, hn⟩
  have hil : i < w.chs.length := by have := As c1; omega
  have w1 := Ab ((i : Int) + 1) (by omega) (by omega)
  obtain ⟨id, b, o, ho, ⟨rr, hr, hs⟩, hb, hia⟩ := q.chs.elem (B7 hil)
  have ak := Ax (vZ (q := w.chs[i].1) hs)
  cases qa : Ho w.chs[i].1 w.chs[i].2 <;> simp only [go_sem, ↓reduceIte, Nat.reduceEqDiff, reduceCtorEq, k1, kc, hia, ho, hr, hb, hH, ak, hw, qa, w1]
  ·have := Fo (f := (fun x => Ho x.1 x.2)) hil qa
   rw [key, A_net, A_wts, A_crs, this]
   try simp
  ·exact ⟨hil, ⟨_, rfl⟩, by simp, E8 (f := (fun x => Ho x.1 x.2)) hil hn qa⟩
 rintro s' ⟨hH, ⟨g, k1⟩, A_chs⟩
 simp only [go_sem, ↓reduceIte, Nat.reduceEqDiff, reduceCtorEq, k1]
 have ke : A6 w = w.acs.all (E1 w.lks.length) := by rw [key, A_net, A_wts, A_crs, A_chs]; rfl
 refine Ak w.acs.length (fun i s' => s'.H = H ∧ (∃ g, s'.ρ 1 = .bx g [u, s, l, p, .int .i64 w.cf.skew, .int .i64 w.now, .int .i64 w.fresh, n, t, k, a, c, h, e, x, d]) ∧ s'.ρ 7 = .val (.int .i64 i) ∧ (w.acs.take i).all (E1 w.lks.length) = true)
  (fun s' => s'.H = H ∧ w.acs.all (E1 w.lks.length) = true) ⟨hH, ⟨g, by simp [Ah, k1]⟩, by simp [Ah], by simp⟩ ?_ ?_
 ·rintro i s' hi ⟨hH, ⟨g, k1⟩, kc, hn⟩
  simp only [go_sem, ↓reduceIte, Nat.reduceEqDiff, reduceCtorEq, k1, kc, q.acs.len]
  cases c1 : decide ((i : Int) < (w.acs.length : Int)) <;> simp only [go_sem, ↓reduceIte, Nat.reduceEqDiff, reduceCtorEq, k1, kc, c1]
  ·rw [List.take_of_length_le (by have := Au c1; omega)] at hn
   exact ⟨hH, hn⟩
  have hil : i < w.acs.length := by have := As c1; omega
  have w1 := Ab ((i : Int) + 1) (by omega) (by omega)
  obtain ⟨id, b, o, ho, ⟨pp, pv, hr, hs1, hs2⟩, hb, hia⟩ := q.acs.elem (B7 hil)
  have ap := Ax (pF hs1)
  have av := Ax (oD hs2)
  simp only [go_sem, ↓reduceIte, Nat.reduceEqDiff, reduceCtorEq, k1, kc, hia, ho, hr, hb, hH, Cu, hw]
  cases b1 : A0 w.acs[i].sv 0 2 <;> simp only [go_sem, ↓reduceIte, Nat.reduceEqDiff, reduceCtorEq, k1, kc, b1, Xy, hw]
  ·rw [ke, Fo hil (by unfold E1; rw [b1]; rfl)]
  cases b2 : A0 w.acs[i].cl 0 5 <;> simp only [go_sem, ↓reduceIte, Nat.reduceEqDiff, reduceCtorEq, k1, kc, b2, Cu, hw, q.lks.len]
  ·rw [ke, Fo hil (by unfold E1; rw [b2]; simp)]
  cases b3 : A0 w.acs[i].lk 0 w.lks.length <;> simp only [go_sem, ↓reduceIte, Nat.reduceEqDiff, reduceCtorEq, k1, kc, b3, ap, hw]
  ·rw [ke, Fo hil (by unfold E1; rw [b3]; simp)]
  cases b4 : Kf w.acs[i].pa 6 3 <;> simp only [go_sem, ↓reduceIte, Nat.reduceEqDiff, reduceCtorEq, k1, kc, b4, av, hw]
  ·rw [ke, Fo hil (by unfold E1; rw [b4]; simp)]
  cases b5 : Kf w.acs[i].vi 4 3 <;> simp only [go_sem, ↓reduceIte, Nat.reduceEqDiff, reduceCtorEq, k1, kc, b5, w1]
  ·rw [ke, Fo hil (by unfold E1; rw [b5]; simp)]
  ·exact ⟨hil, ⟨_, rfl⟩, by simp, E8 hil hn (by unfold E1; rw [b1, b2, b3, b4, b5]; rfl)⟩
 rintro s' ⟨hH, hA⟩
 simp only [go_sem, ↓reduceIte, Nat.reduceEqDiff, reduceCtorEq, hH, ke, hA]
theorem f76 {H : Hp} {a : I7} {cs : List Value} {n : Int} (h : fE H a cs) : Aw EE 76 [.agg cs.toArray, .int .i64 n] H (.bool (E1 n a)) := by
 obtain ⟨pp, pv, e, hs1, hs2⟩ := h
 subst e
 refine Ag rfl rfl k76 (by simp [uP]) rfl fun m hw => ?_
 have ap := Ax (jJ hs1)
 have av := Ax (jQ hs2)
 simp only [go_sem, Nat.reduceEqDiff, reduceCtorEq, uP, Vm, hw]
 cases b1 : A0 a.sv 0 2 <;> simp only [go_sem, Nat.reduceEqDiff, reduceCtorEq, b1, S4, hw]
 ·rw [show E1 n a = false by unfold E1; rw [b1]; rfl]
 cases b2 : A0 a.cl 0 5 <;> simp only [go_sem, Nat.reduceEqDiff, reduceCtorEq, b2, Lf, hw]
 ·rw [show E1 n a = false by unfold E1; rw [b2]; simp]
 cases b3 : A0 a.lk 0 n <;> simp only [go_sem, Nat.reduceEqDiff, reduceCtorEq, b3, ap, hw]
 ·rw [show E1 n a = false by unfold E1; rw [b3]; simp]
 cases b4 : Kf a.pa 6 3 <;> simp only [go_sem, Nat.reduceEqDiff, reduceCtorEq, b4, av, hw]
 ·rw [show E1 n a = false by unfold E1; rw [b4]; simp]
 ·rw [show E1 n a = Kf a.vi 4 3 by unfold E1; rw [b1, b2, b3, b4]; rfl]
theorem f78 {H : Hp} {s : ByteArray} (hs : s.size ≤ 4611686018427387904) : Aw EE 78 [.string s] H (.bool (!Ej s)) := by
 refine Ag rfl rfl k78 (by simp [zF]) rfl fun m hw => ?_
 have ak := Ax (f79 (H := H) hs)
 simp only [go_sem, Nat.reduceEqDiff, reduceCtorEq, zF, ak, hw]
theorem qL {H : Hp} {v : Value} {l : List ByteArray} {k : Nat} {caps : Array Value} {p : ByteArray → Bool} (hl : Dz H v l) (hk : ∀ a ∈ l, Aw EE k ([.string a] ++ caps.toList) H (.bool (p a))) : A4 EE 119 [v, .func (.func k) #[] caps] H fun r => ∃ n : Int, r = .int .i64 n ∧ X1 l p n := by
 refine Ar rfl rfl yP (by simp [mK]) fun m hw => ?_
 have hroom := hl.room
 simp only [go_sem, Nat.reduceEqDiff, reduceCtorEq, mK, hl.len]
 refine Ak l.length (fun i s => s.H = H ∧ s.ρ 0 = .val v ∧ s.ρ 1 = .val (.func (.func k) #[] caps) ∧ s.ρ 7 = .val (.int .i64 l.length) ∧ s.ρ 8 = .val (.int .i64 i) ∧ ∀ a ∈ l.take i, p a = false) (fun s => s.H = H ∧ ∀ a ∈ l, p a = false) (by simp [Ah, Cb]) ?_ ?_
 ·rintro i s hi ⟨hH, k0, k1, k7, k8, hn⟩
  simp only [go_sem, Nat.reduceEqDiff, reduceCtorEq, k0, k1, k7, k8]
  cases c1 : decide ((i : Int) < (l.length : Int)) <;> simp only [go_sem, Nat.reduceEqDiff, reduceCtorEq, k0, k1, k7, k8, c1]
  ·have : i = l.length := by have := Au c1; omega
   subst this
   rw [List.take_length] at hn
   exact ⟨hH, hn⟩
  have hil : i < l.length := by have := As c1; omega
  have w1 := Ab ((i : Int) + 1) (by omega) (by omega)
  obtain ⟨id, q, o, ho, hr, hia⟩ := hl.str (B7 hil)
  have ak := Ax (hk _ (List.getElem_mem hil))
  simp only [List.singleton_append] at ak
  simp only [go_sem, Nat.reduceEqDiff, reduceCtorEq, k0, k1, k7, k8, hia, hH, ho, hr, ak, hw]
  cases q2 : p l[i] <;> simp only [go_sem, Nat.reduceEqDiff, reduceCtorEq, k0, k1, k7, k8, q2, w1]
  ·exact ⟨hil, by simp, Ek hil hn q2⟩
  ·exact ⟨_, rfl, .inr ⟨i, hil, rfl, q2, hn⟩⟩
 ·rintro s ⟨hH, hn⟩
  simp only [go_sem, Nat.reduceEqDiff, reduceCtorEq, hH]
  exact ⟨-1, rfl, .inl ⟨rfl, hn⟩⟩
theorem zZ {H : Hp} {v : Value} {l : List ByteArray} (hl : Dz H v l) (hz : ∀ z ∈ l, z.size ≤ 4611686018427387904) : Aw EE 77 [v, .func (.func 78) #[] #[]] H (.bool (!l.all Ej)) := by
 refine Ag rfl rfl k77 (by simp [uF]) rfl fun m hw => ?_
 simp only [go_sem, Nat.reduceEqDiff, reduceCtorEq, uF]
 refine Aa (fun m' h => qL (p := fun z => !Ej z) hl (fun z hm => f78 (hz z hm)) m' h) rfl hw fun r H' ⟨⟨n, e, hn⟩, e2⟩ => ?_
 subst e; subst e2
 simp only [go_sem, Nat.reduceEqDiff, reduceCtorEq, hn.any]
 rw [List.not_all_eq_any_not]
theorem yQ {H : Hp} {w : Wd} {u s l p n t k a c h e x d : Value} (q : T7 H w u s l p n t k a c h e x d) (z : Vk w) : Aw EE 38 [.agg #[u, s, l, p, .int .i64 w.cf.skew, .int .i64 w.now, .int .i64 w.fresh, n, t, k, a, c, h, e, x, d]] H (.bool (A6 w)) := by
 refine Ag rfl rfl qQ (by simp [sK]) rfl fun m hw => ?_
 have r1 := q.net.room; have r2 := q.wts.room; have r3 := q.crs.room; have r4 := q.chs.room; have r5 := q.acs.room
 have a80 := Ax (f80 q.cf)
 have a83 := Ax (f83 q.tms q.kys z.tms)
 have a77 := Ax (zZ q.net z.net)
 simp only [go_sem, Nat.reduceEqDiff, reduceCtorEq, sK, q.wts.len]
 refine Ak w.wts.length (fun i s' => s'.H = H ∧ (∃ g, s'.ρ 1 = .bx g [u, s, l, p, .int .i64 w.cf.skew, .int .i64 w.now, .int .i64 w.fresh, n, t, k, a, c, h, e, x, d]) ∧ s'.ρ 12 = .val a ∧ s'.ρ 13 = .val (.int .i64 w.wts.length) ∧ s'.ρ 14 = .val (.int .i64 i) ∧ (w.wts.take i).all Ig = true)
  (fun s' => s'.H = H ∧ (∃ g, s'.ρ 1 = .bx g [u, s, l, p, .int .i64 w.cf.skew, .int .i64 w.now, .int .i64 w.fresh, n, t, k, a, c, h, e, x, d]) ∧ w.wts.all Ig = true) (by simp [Ah, Cb]) ?_ ?_
 ·rintro i s' hi ⟨hH, ⟨g, k1⟩, kl, kn, kc, hn⟩
  simp only [go_sem, Nat.reduceEqDiff, reduceCtorEq, k1, kl, kn, kc]
  cases c1 : decide ((i : Int) < (w.wts.length : Int)) <;> simp only [go_sem, Nat.reduceEqDiff, reduceCtorEq, k1, kl, kn, kc, c1]
  ·rw [List.take_of_length_le (by have := Au c1; omega)] at hn
   exact ⟨hH, ⟨_, rfl⟩, hn⟩
  have hil : i < w.wts.length := by have := As c1; omega
  have w1 := Ab ((i : Int) + 1) (by omega) (by omega)
  obtain ⟨id, b, o, ho, hr, hb, hia⟩ := q.wts.elem (B7 hil)
  have hr : (o.drop b).take 4 = bL w.wts[i] := hr
  unfold bL at hr
  have ak := Ax (f73 (H := H) (x := w.wts[i]))
  cases qa : Ig w.wts[i] <;> simp only [go_sem, Nat.reduceEqDiff, reduceCtorEq, k1, kl, kn, kc, hia, ho, hr, hb, hH, ak, hw, qa, w1, q.lks.len]
  ·have := Fo (f := Ig) hil qa
   rw [show A6 w = false by unfold A6; rw [this]; simp]
  ·exact ⟨hil, ⟨_, rfl⟩, by simp, E8 (f := Ig) hil hn qa⟩
 rintro s' ⟨hH, ⟨g, k1⟩, A_wts⟩
 simp only [go_sem, Nat.reduceEqDiff, reduceCtorEq, k1, q.crs.len]
 refine Ak w.crs.length (fun i s' => s'.H = H ∧ (∃ g, s'.ρ 1 = .bx g [u, s, l, p, .int .i64 w.cf.skew, .int .i64 w.now, .int .i64 w.fresh, n, t, k, a, c, h, e, x, d]) ∧ s'.ρ 23 = .val c ∧ s'.ρ 24 = .val (.int .i64 w.crs.length) ∧ s'.ρ 25 = .val (.int .i64 i) ∧ (w.crs.take i).all C4 = true)
  (fun s' => s'.H = H ∧ (∃ g, s'.ρ 1 = .bx g [u, s, l, p, .int .i64 w.cf.skew, .int .i64 w.now, .int .i64 w.fresh, n, t, k, a, c, h, e, x, d]) ∧ w.crs.all C4 = true) ⟨hH, ⟨g, by simp [Ah, k1]⟩, by simp [Ah], by simp [Ah], by simp [Ah], by simp⟩ ?_ ?_
 ·rintro i s' hi ⟨hH, ⟨g, k1⟩, kl, kn, kc, hn⟩
  simp only [go_sem, Nat.reduceEqDiff, reduceCtorEq, k1, kl, kn, kc]
  cases c1 : decide ((i : Int) < (w.crs.length : Int)) <;> simp only [go_sem, Nat.reduceEqDiff, reduceCtorEq, k1, kl, kn, kc, c1]
  ·rw [List.take_of_length_le (by have := Au c1; omega)] at hn
   exact ⟨hH, ⟨_, rfl⟩, hn⟩
  have hil : i < w.crs.length := by have := As c1; omega
  have w1 := Ab ((i : Int) + 1) (by omega) (by omega)
  obtain ⟨id, b, o, ho, hr, hb, hia⟩ := q.crs.elem (B7 hil)
  have hr : (o.drop b).take 8 = T5 w.crs[i] := hr
  unfold T5 at hr
  have ak := Ax (f74 (H := H) (x := w.crs[i]) (z.crs _ (List.getElem_mem hil)).1 (z.crs _ (List.getElem_mem hil)).2)
  cases qa : C4 w.crs[i] <;> simp only [go_sem, Nat.reduceEqDiff, reduceCtorEq, k1, kl, kn, kc, hia, ho, hr, hb, hH, ak, hw, qa, w1, q.lks.len]
  ·have := Fo (f := C4) hil qa
   rw [show A6 w = false by unfold A6; rw [this]; simp]
  ·exact ⟨hil, ⟨_, rfl⟩, by simp, E8 (f := C4) hil hn qa⟩
 rintro s' ⟨hH, ⟨g, k1⟩, A_crs⟩
 simp only [go_sem, Nat.reduceEqDiff, reduceCtorEq, k1, q.chs.len]
 refine Ak w.chs.length (fun i s' => s'.H = H ∧ (∃ g, s'.ρ 1 = .bx g [u, s, l, p, .int .i64 w.cf.skew, .int .i64 w.now, .int .i64 w.fresh, n, t, k, a, c, h, e, x, d]) ∧ s'.ρ 34 = .val h ∧ s'.ρ 35 = .val (.int .i64 w.chs.length) ∧ s'.ρ 36 = .val (.int .i64 i) ∧ (w.chs.take i).all (fun x => Ho x.1 x.2) = true)
  (fun s' => s'.H = H ∧ (∃ g, s'.ρ 1 = .bx g [u, s, l, p, .int .i64 w.cf.skew, .int .i64 w.now, .int .i64 w.fresh, n, t, k, a, c, h, e, x, d]) ∧ w.chs.all (fun x => Ho x.1 x.2) = true) ⟨hH, ⟨g, by simp [Ah, k1]⟩, by simp [Ah], by simp [Ah], by simp [Ah], by simp⟩ ?_ ?_
 ·rintro i s' hi ⟨hH, ⟨g, k1⟩, kl, kn, kc, hn⟩
  simp only [go_sem, Nat.reduceEqDiff, reduceCtorEq, k1, kl, kn, kc]
  cases c1 : decide ((i : Int) < (w.chs.length : Int)) <;> simp only [go_sem, Nat.reduceEqDiff, reduceCtorEq, k1, kl, kn, kc, c1]
  ·rw [List.take_of_length_le (by have := Au c1; omega)] at hn
   exact ⟨hH, ⟨_, rfl⟩, hn⟩
  have hil : i < w.chs.length := by have := As c1; omega
  have w1 := Ab ((i : Int) + 1) (by omega) (by omega)
  obtain ⟨id, b, o, ho, ⟨rr, hr, hs⟩, hb, hia⟩ := q.chs.elem (B7 hil)
  have ak := Ax (f75 (q := w.chs[i].1) hs)
  cases qa : Ho w.chs[i].1 w.chs[i].2 <;> simp only [go_sem, Nat.reduceEqDiff, reduceCtorEq, k1, kl, kn, kc, hia, ho, hr, hb, hH, ak, hw, qa, w1, q.lks.len]
  ·have := Fo (f := (fun x => Ho x.1 x.2)) hil qa
   rw [show A6 w = false by unfold A6; rw [this]; simp]
  ·exact ⟨hil, ⟨_, rfl⟩, by simp, E8 (f := (fun x => Ho x.1 x.2)) hil hn qa⟩
 rintro s' ⟨hH, ⟨g, k1⟩, A_chs⟩
 simp only [go_sem, Nat.reduceEqDiff, reduceCtorEq, k1, q.acs.len]
 refine Ak w.acs.length (fun i s' => s'.H = H ∧ (∃ g, s'.ρ 1 = .bx g [u, s, l, p, .int .i64 w.cf.skew, .int .i64 w.now, .int .i64 w.fresh, n, t, k, a, c, h, e, x, d]) ∧ s'.ρ 45 = .val x ∧ s'.ρ 46 = .val (.int .i64 w.acs.length) ∧ s'.ρ 47 = .val (.int .i64 i) ∧ (w.acs.take i).all (E1 w.lks.length) = true)
  (fun s' => s'.H = H ∧ (∃ g, s'.ρ 1 = .bx g [u, s, l, p, .int .i64 w.cf.skew, .int .i64 w.now, .int .i64 w.fresh, n, t, k, a, c, h, e, x, d]) ∧ w.acs.all (E1 w.lks.length) = true) ⟨hH, ⟨g, by simp [Ah, k1]⟩, by simp [Ah], by simp [Ah], by simp [Ah], by simp⟩ ?_ ?_
 ·rintro i s' hi ⟨hH, ⟨g, k1⟩, kl, kn, kc, hn⟩
  simp only [go_sem, Nat.reduceEqDiff, reduceCtorEq, k1, kl, kn, kc]
  cases c1 : decide ((i : Int) < (w.acs.length : Int)) <;> simp only [go_sem, Nat.reduceEqDiff, reduceCtorEq, k1, kl, kn, kc, c1]
  ·rw [List.take_of_length_le (by have := Au c1; omega)] at hn
   exact ⟨hH, ⟨_, rfl⟩, hn⟩
  have hil : i < w.acs.length := by have := As c1; omega
  have w1 := Ab ((i : Int) + 1) (by omega) (by omega)
  obtain ⟨id, b, o, ho, hrr, hb, hia⟩ := q.acs.elem (B7 hil)
  have ak := Ax (f76 (n := w.lks.length) hrr)
  obtain ⟨pp, pv, hr, hs1, hs2⟩ := hrr
  rw [hr] at ak
  simp only [List.toArray] at ak
  cases qa : E1 w.lks.length w.acs[i] <;> simp only [go_sem, Nat.reduceEqDiff, reduceCtorEq, k1, kl, kn, kc, hia, ho, hr, hb, hH, ak, hw, qa, w1, q.lks.len]
  ·have := Fo (f := (E1 w.lks.length)) hil qa
   rw [show A6 w = false by unfold A6; rw [this]; simp]
  ·exact ⟨hil, ⟨_, rfl⟩, by simp, E8 (f := (E1 w.lks.length)) hil hn qa⟩
 rintro s' ⟨hH, ⟨g, k1⟩, A_acs⟩
 simp only [go_sem, Nat.reduceEqDiff, reduceCtorEq, k1, a77, hH, hw]
 cases q0 : w.net.all Ej <;> simp only [go_sem, Nat.reduceEqDiff, reduceCtorEq, q0, k1, q.net.len]
 ·rw [show A6 w = false by unfold A6; rw [q0]; simp]
 cases q4 : decide ((w.net.length : Int) > 50) <;> simp only [go_sem, Nat.reduceEqDiff, reduceCtorEq, Nat.reduceLeDiff, q4, k1, a80, hw]
 rotate_left
 ·rw [show A6 w = false by unfold A6; rw [decide_eq_false (show ¬ w.net.length ≤ 50 by have := As q4; omega)]; simp]
 cases q1 : Co w.cf <;> simp only [go_sem, Nat.reduceEqDiff, reduceCtorEq, Nat.reduceLeDiff, q1, k1, lF, hw]
 ·rw [show A6 w = false by unfold A6; rw [q1]; rfl]
 cases q2 : A0 w.now 0 100000 <;> simp only [go_sem, Nat.reduceEqDiff, reduceCtorEq, Nat.reduceLeDiff, q2, k1, Lf, hw]
 ·rw [show A6 w = false by unfold A6; rw [q2]; simp]
 cases q3 : A0 w.fresh 101 1000000 <;> simp only [go_sem, Nat.reduceEqDiff, reduceCtorEq, Nat.reduceLeDiff, q3, k1, a83, hw]
 ·rw [show A6 w = false by unfold A6; rw [q3]; simp]
 cases q5 : Im w.tms w.kys <;> simp only [go_sem, Nat.reduceEqDiff, reduceCtorEq, Nat.reduceLeDiff, q5, k1, q.wts.len]
 ·rw [show A6 w = false by unfold A6; rw [q5]; simp]
 cases q6 : decide ((w.wts.length : Int) = 6) <;> simp only [go_sem, Nat.reduceEqDiff, reduceCtorEq, q6, k1, q.crs.len]
 ·rw [show A6 w = false by unfold A6; rw [decide_eq_false (show ¬ w.wts.length = 6 by have := Au q6; omega)]; simp]
 cases q7 : decide ((w.crs.length : Int) ≤ 30) <;> simp only [go_sem, Nat.reduceEqDiff, reduceCtorEq, q7, k1, q.chs.len]
 ·rw [show A6 w = false by unfold A6; rw [decide_eq_false (show ¬ w.crs.length ≤ 30 by have := Au q7; omega)]; simp]
 cases q8 : decide ((w.chs.length : Int) = 3) <;> simp only [go_sem, Nat.reduceEqDiff, reduceCtorEq, q8, k1, q.log.len]
 ·rw [show A6 w = false by unfold A6; rw [decide_eq_false (show ¬ w.chs.length = 3 by have := Au q8; omega)]; simp]
 cases q9 : decide ((w.log.length : Int) ≤ 40) <;> simp only [go_sem, Nat.reduceEqDiff, reduceCtorEq, q9, k1, q.acs.len]
 ·rw [show A6 w = false by unfold A6; rw [decide_eq_false (show ¬ w.log.length ≤ 40 by have := Au q9; omega)]; simp]
 cases q10 : decide ((w.acs.length : Int) ≤ 40) <;> simp only [go_sem, Nat.reduceEqDiff, reduceCtorEq, q10, k1, q.lks.len]
 ·rw [show A6 w = false by unfold A6; rw [decide_eq_false (show ¬ w.acs.length ≤ 40 by have := Au q10; omega)]; simp]
 have e4 : decide (w.net.length ≤ 50) = true := decide_eq_true (by have := Au q4; omega)
 have e6 : decide (w.wts.length = 6) = true := decide_eq_true (by have := As q6; omega)
 have e7 : decide (w.crs.length ≤ 30) = true := decide_eq_true (by have := As q7; omega)
 have e8 : decide (w.chs.length = 3) = true := decide_eq_true (by have := As q8; omega)
 have e9 : decide (w.log.length ≤ 40) = true := decide_eq_true (by have := As q9; omega)
 have e10 : decide (w.acs.length ≤ 40) = true := decide_eq_true (by have := As q10; omega)
 have e11 : decide ((w.lks.length : Int) ≤ 40) = decide (w.lks.length ≤ 40) := by rw [decide_eq_decide]; omega
 rw [e11]
 unfold A6
 rw [q1, q2, q3, e4, q5, e6, e7, e8, e9, e10, q0, A_wts, A_crs, A_chs, A_acs]
 simp
theorem nR {α : Type} {R : α → List Value → Prop} {H : Hp} {v : Value} {l : List α} {left : Int} (hl : Sl R 1 H v l) (h0 : 0 ≤ left) (h1 : left ≤ 1048576) : A4 EE 28 [v, .int .i64 left] H fun r => ∃ n : Int, r = .int .i64 n ∧ (0 ≤ n → n ≤ 1048576 ∧ l.length ≤ 1048576) := by
 refine Ar rfl rfl qO (by simp [c28]) fun m hw => ?_
 have hroom := hl.room
 simp only [go_sem, Nat.reduceEqDiff, c28, hl.len, Ab (left - (l.length : Int)) (by omega) (by omega)]
 refine Bf.intro (fun q1 => ?_) (fun q1 => ?_) <;> simp only [go_sem, Nat.reduceEqDiff]
 ·exact ⟨-1, rfl, fun h => by omega⟩
 ·have := Au q1
  exact ⟨_, rfl, fun h => ⟨by omega, by omega⟩⟩
theorem f63 {α : Type} {R : α → List Value → Prop} {H : Hp} {v : Value} {l : List α} {left : Int} (hl : Sl R 2 H v l) (h0 : 0 ≤ left) (h1 : left ≤ 1048576) : A4 EE 63 [v, .int .i64 left] H fun r => ∃ n : Int, r = .int .i64 n ∧ (0 ≤ n → n ≤ 1048576 ∧ l.length ≤ 1048576) := by
 refine Ar rfl rfl k63 (by simp [c63]) fun m hw => ?_
 have hroom := hl.room
 simp only [go_sem, Nat.reduceEqDiff, c63, hl.len, Ab (left - (l.length : Int)) (by omega) (by omega)]
 refine Bf.intro (fun q1 => ?_) (fun q1 => ?_) <;> simp only [go_sem, Nat.reduceEqDiff]
 ·exact ⟨-1, rfl, fun h => by omega⟩
 ·have := Au q1
  exact ⟨_, rfl, fun h => ⟨by omega, by omega⟩⟩
theorem f23 {α : Type} {R : α → List Value → Prop} {H : Hp} {v : Value} {l : List α} {left : Int} (hl : Sl R 4 H v l) (h0 : 0 ≤ left) (h1 : left ≤ 1048576) : A4 EE 23 [v, .int .i64 left] H fun r => ∃ n : Int, r = .int .i64 n ∧ (0 ≤ n → n ≤ 1048576 ∧ l.length ≤ 1048576) := by
 refine Ar rfl rfl k23 (by simp [rT]) fun m hw => ?_
 have hroom := hl.room
 simp only [go_sem, Nat.reduceEqDiff, rT, hl.len, Ab (left - (l.length : Int)) (by omega) (by omega)]
 refine Bf.intro (fun q1 => ?_) (fun q1 => ?_) <;> simp only [go_sem, Nat.reduceEqDiff]
 ·exact ⟨-1, rfl, fun h => by omega⟩
 ·have := Au q1
  exact ⟨_, rfl, fun h => ⟨by omega, by omega⟩⟩
theorem f26 {α : Type} {R : α → List Value → Prop} {H : Hp} {v : Value} {l : List α} {left : Int} (hl : Sl R 11 H v l) (h0 : 0 ≤ left) (h1 : left ≤ 1048576) : A4 EE 26 [v, .int .i64 left] H fun r => ∃ n : Int, r = .int .i64 n ∧ (0 ≤ n → n ≤ 1048576 ∧ l.length ≤ 1048576) := by
 refine Ar rfl rfl k26 (by simp [c26]) fun m hw => ?_
 have hroom := hl.room
 simp only [go_sem, Nat.reduceEqDiff, c26, hl.len, Ab (left - (l.length : Int)) (by omega) (by omega)]
 refine Bf.intro (fun q1 => ?_) (fun q1 => ?_) <;> simp only [go_sem, Nat.reduceEqDiff]
 ·exact ⟨-1, rfl, fun h => by omega⟩
 ·have := Au q1
  exact ⟨_, rfl, fun h => ⟨by omega, by omega⟩⟩
theorem wO {α : Type} {R : α → List Value → Prop} {H : Hp} {v : Value} {l : List α} {left : Int} (hl : Sl R 3 H v l) (h0 : 0 ≤ left) (h1 : left ≤ 1048576) : A4 EE 104 [v, .int .i64 left] H fun r => ∃ n : Int, r = .int .i64 n ∧ (0 ≤ n → n ≤ 1048576 ∧ l.length ≤ 1048576) := by
 refine Ar rfl rfl vY (by simp [gQ]) fun m hw => ?_
 have hroom := hl.room
 simp only [go_sem, Nat.reduceEqDiff, gQ, hl.len, Ab (left - (l.length : Int)) (by omega) (by omega)]
 refine Bf.intro (fun q1 => ?_) (fun q1 => ?_) <;> simp only [go_sem, Nat.reduceEqDiff]
 ·exact ⟨-1, rfl, fun h => by omega⟩
 ·have := Au q1
  exact ⟨_, rfl, fun h => ⟨by omega, by omega⟩⟩
theorem f21 {H : Hp} {v : Value} {l : List ByteArray} {left : Int} (hl : Dz H v l) (hz : ∀ z ∈ l, z.size ≤ 9223372036854775807) (h0 : 0 ≤ left) (h1 : left ≤ 1048576) : A4 EE 21 [v, .int .i64 left] H fun r => ∃ n : Int, r = .int .i64 n ∧ (0 ≤ n → n ≤ 1048576 ∧ l.length ≤ 1048576 ∧ ∀ z ∈ l, z.size ≤ 1048576) := by
 refine Ar rfl rfl fD (by simp [c21]) fun m hw => ?_
 have hroom := hl.room
 simp only [go_sem, Nat.reduceEqDiff, c21, hl.len, Ab (left - (l.length : Int)) (by omega) (by omega)]
 refine Bf.intro (fun q1 => ?_) (fun q1 => ?_) <;> simp only [go_sem, Nat.reduceEqDiff]
 ·exact ⟨-1, rfl, fun h => by omega⟩
 have q1' := Au q1
 refine Ak l.length (fun i s => s.H = H ∧ s.ρ 0 = .val v ∧ (∃ n : Int, s.ρ 1 = .val (.int .i64 n) ∧ 0 ≤ n ∧ n ≤ 1048576) ∧ s.ρ 5 = .val (.int .i64 i) ∧ ∀ z ∈ l.take i, z.size ≤ 1048576) (fun s => s.H = H ∧ (∃ n : Int, s.ρ 1 = .val (.int .i64 n) ∧ 0 ≤ n ∧ n ≤ 1048576) ∧ ∀ z ∈ l, z.size ≤ 1048576) ?_ ?_ ?_
 ·exact ⟨rfl, by simp [Ah, Cb], ⟨left - l.length, by simp [Ah], by omega, by omega⟩, by simp [Ah], by simp⟩
 ·rintro i s hi ⟨hH, k0, ⟨n, k1, hn0, hn1⟩, k5, hk⟩
  simp only [go_sem, Nat.reduceEqDiff, k0, k1, k5, hl.len]
  cases c1 : decide ((i : Int) < (l.length : Int)) <;> simp only [go_sem, Nat.reduceEqDiff, k0, k1, k5, c1]
  ·rw [List.take_of_length_le (by have := Au c1; omega)] at hk
   exact ⟨hH, ⟨n, rfl, hn0, hn1⟩, hk⟩
  have hil : i < l.length := by have := As c1; omega
  have w1 := Ab ((i : Int) + 1) (by omega) (by omega)
  obtain ⟨id, p, o, ho, hr, hia⟩ := hl.str (B7 hil)
  have hzi := hz _ (List.getElem_mem hil)
  have wsz := Ab (n - (l[i].size : Int)) (by omega) (by omega)
  simp only [go_sem, Nat.reduceEqDiff, reduceCtorEq, k0, k1, k5, hia, hH, ho, hr, Cn, wsz]
  cases q2 : decide (n - (l[i].size : Int) < 0) <;> simp only [go_sem, Nat.reduceEqDiff, reduceCtorEq, k0, k1, k5, q2, w1]
  ·have := Au q2
   refine ⟨hil, ⟨_, rfl, by omega, by omega⟩, by simp, fun x hx => ?_⟩
   rw [List.take_succ_eq_append_getElem hil, List.mem_append, List.mem_singleton] at hx
   rcases hx with hx | hx
   ·exact hk x hx
   ·subst hx; omega
  ·exact ⟨-1, rfl, fun h => by omega⟩
 ·rintro s ⟨hH, ⟨n, k1, hn0, hn1⟩, hk⟩
  simp only [go_sem, k1, hH]
  exact ⟨n, rfl, fun _ => ⟨hn1, by omega, hk⟩⟩
theorem f22 {H : Hp} {u w : Value} {t : List ByteArray} {k : List Int} {left : Int} (ht : Dz H u t) (hk : Bu H w k) (hz : ∀ z ∈ t, z.size ≤ 9223372036854775807) (h0 : 0 ≤ left) (h1 : left ≤ 1048576) : A4 EE 22 [.agg #[u, w], .int .i64 left] H fun r => ∃ n : Int, r = .int .i64 n ∧ (0 ≤ n → n ≤ 1048576 ∧ (t.length ≤ 1048576 ∧ ∀ z ∈ t, z.size ≤ 1048576) ∧ k.length ≤ 1048576) := by
 refine Ar rfl rfl Kg (by simp [yO]) fun m hw => ?_
 simp only [go_sem, Nat.reduceEqDiff, reduceCtorEq, yO]
 refine Aa (fun m' h => f21 ht hz h0 h1 m' h) rfl hw fun r H' ⟨⟨n, e, hn⟩, e2⟩ => ?_
 subst e; subst e2
 simp only [go_sem, Nat.reduceEqDiff]
 refine Bf.intro (fun q1 => ?_) (fun q1 => ?_) <;> simp only [go_sem, Nat.reduceEqDiff, reduceCtorEq]
 ·exact ⟨-1, rfl, fun h => by omega⟩
 have q1' := Au q1
 refine Aa (fun m' h => nR hk (by omega) (hn (by omega)).1 m' h) rfl hw fun r H' ⟨⟨n2, e, hn2⟩, e2⟩ => ?_
 subst e; subst e2
 simp only [go_sem, Nat.reduceEqDiff]
 refine Bf.intro (fun q2 => ?_) (fun q2 => ?_) <;> simp only [go_sem, Nat.reduceEqDiff]
 ·exact ⟨-1, rfl, fun h => by omega⟩
 ·exact ⟨n2, rfl, fun h => ⟨(hn2 h).1, (hn (by omega)).2, (hn2 h).2⟩⟩
theorem f64 {H : Hp} {x : Cr} {left : Int} (hz : x.2.2.2.2.2.size ≤ 9223372036854775807) (h0 : 0 ≤ left) (h1 : left ≤ 1048576) : A4 EE 64 [.agg #[.int .i64 x.1, .int .i64 x.2.1, .int .i64 x.2.2.1, .int .i64 x.2.2.2.1, .int .i64 x.2.2.2.2.1.1, .int .i64 x.2.2.2.2.1.2.1, .int .i64 x.2.2.2.2.1.2.2, .string x.2.2.2.2.2], .int .i64 left] H fun r => ∃ n : Int, r = .int .i64 n ∧ (0 ≤ n → n ≤ 1048576 ∧ x.2.2.2.2.2.size ≤ 1048576) := by
 refine Ar rfl rfl k64 (by simp [xQ]) fun m hw => ?_
 simp only [go_sem, Nat.reduceEqDiff, reduceCtorEq, xQ, Cn, Ab (left - (x.2.2.2.2.2.size : Int)) (by omega) (by omega)]
 refine Bf.intro (fun q1 => ?_) (fun q1 => ?_) <;> simp only [go_sem, Nat.reduceEqDiff, reduceCtorEq]
 ·exact ⟨-1, rfl, fun h => by omega⟩
 ·have := Au q1
  exact ⟨_, rfl, fun h => ⟨by omega, by omega⟩⟩
theorem f65 {H : Hp} {x : Ch} {cs : List Value} {left : Int} (hc : gR H x cs) (h0 : 0 ≤ left) (h1 : left ≤ 1048576) : A4 EE 65 [.agg cs.toArray, .int .i64 left] H fun r => ∃ n : Int, r = .int .i64 n ∧ (0 ≤ n → n ≤ 1048576 ∧ x.2.length ≤ 1048576) := by
 obtain ⟨u, e, hs⟩ := hc
 subst e
 refine Ar rfl rfl k65 (by simp [wQ]) fun m hw => ?_
 simp only [go_sem, Nat.reduceEqDiff, reduceCtorEq, wQ]
 refine Aa (fun m' h => wO hs h0 h1 m' h) rfl hw fun r H' ⟨⟨n, e, hn⟩, e2⟩ => ?_
 subst e; subst e2
 simp only [go_sem]
 refine Bf.intro (fun q1 => ?_) (fun q1 => ?_) <;> simp only [go_sem, Nat.reduceEqDiff]
 ·exact ⟨-1, rfl, fun h => by omega⟩
 ·exact ⟨n, rfl, hn⟩
theorem f66 {H : Hp} {x : I7} {cs : List Value} {left : Int} (hc : fE H x cs) (hz : x.tk.size ≤ 9223372036854775807) (h0 : 0 ≤ left) (h1 : left ≤ 1048576) : A4 EE 66 [.agg cs.toArray, .int .i64 left] H fun r => ∃ n : Int, r = .int .i64 n ∧ (0 ≤ n → n ≤ 1048576 ∧ x.pa.length ≤ 1048576 ∧ x.vi.length ≤ 1048576) := by
 obtain ⟨pp, pv, e, hs1, hs2⟩ := hc
 subst e
 refine Ar rfl rfl k66 (by simp [vM]) fun m hw => ?_
 simp only [go_sem, Nat.reduceEqDiff, reduceCtorEq, vM]
 refine Aa (fun m' h => nR hs1 h0 h1 m' h) rfl hw fun r H' ⟨⟨n, e, hn⟩, e2⟩ => ?_
 subst e; subst e2
 simp only [go_sem, Nat.reduceEqDiff]
 refine Bf.intro (fun q1 => ?_) (fun q1 => ?_) <;> simp only [go_sem, Nat.reduceEqDiff, reduceCtorEq]
 ·exact ⟨-1, rfl, fun h => by omega⟩
 have q1' := Au q1
 refine Aa (fun m' h => nR hs2 (by omega) (hn (by omega)).1 m' h) rfl hw fun r H' ⟨⟨n2, e, hn2⟩, e2⟩ => ?_
 subst e; subst e2
 simp only [go_sem, Nat.reduceEqDiff, reduceCtorEq]
 refine Bf.intro (fun q2 => ?_) (fun q2 => ?_) <;> simp only [go_sem, Nat.reduceEqDiff, reduceCtorEq]
 ·exact ⟨-1, rfl, fun h => by omega⟩
 have q2' := Au q2
 have hb := (hn2 (by omega)).1
 simp only [go_sem, Nat.reduceEqDiff, reduceCtorEq, Cn, Ab (n2 - (x.tk.size : Int)) (by omega) (by omega)]
 refine Bf.intro (fun q3 => ?_) (fun q3 => ?_) <;> simp only [go_sem, Nat.reduceEqDiff]
 ·exact ⟨-1, rfl, fun h => by omega⟩
 ·exact ⟨_, rfl, fun h => ⟨by omega, (hn (by omega)).2, (hn2 (by omega)).2⟩⟩
theorem f24 {H : Hp} {v : Value} {l : List Cr} {left : Int} (hl : Sl (En T5) 8 H v l) (hz : ∀ z ∈ l, z.2.2.2.2.2.size ≤ 9223372036854775807) (h0 : 0 ≤ left) (h1 : left ≤ 1048576) : A4 EE 24 [v, .int .i64 left] H fun r => ∃ n : Int, r = .int .i64 n ∧ (0 ≤ n → n ≤ 1048576 ∧ l.length ≤ 1048576 ∧ ∀ x ∈ l, x.2.2.2.2.2.size ≤ 1048576) := by
 refine Ar rfl rfl k24 (by simp [c24]) fun m hw => ?_
 have hroom := hl.room
 simp only [go_sem, Nat.reduceEqDiff, c24, hl.len, Ab (left - (l.length : Int)) (by omega) (by omega)]
 refine Bf.intro (fun q1 => ?_) (fun q1 => ?_) <;> simp only [go_sem, Nat.reduceEqDiff]
 ·exact ⟨-1, rfl, fun h => by omega⟩
 have q1' := Au q1
 refine Ak l.length (fun i s => s.H = H ∧ s.ρ 0 = .val v ∧ (∃ n : Int, s.ρ 1 = .val (.int .i64 n) ∧ 0 ≤ n ∧ n ≤ 1048576) ∧ s.ρ 5 = .val (.int .i64 i) ∧ ∀ x ∈ l.take i, x.2.2.2.2.2.size ≤ 1048576) (fun s => s.H = H ∧ (∃ n : Int, s.ρ 1 = .val (.int .i64 n) ∧ 0 ≤ n ∧ n ≤ 1048576) ∧ ∀ x ∈ l, x.2.2.2.2.2.size ≤ 1048576) ?_ ?_ ?_
 ·exact ⟨rfl, by simp [Ah, Cb], ⟨left - l.length, by simp [Ah], by omega, by omega⟩, by simp [Ah], by simp⟩
 ·rintro i s hi ⟨hH, k0, ⟨n, k1, hn0, hn1⟩, k5, hk⟩
  simp only [go_sem, Nat.reduceEqDiff, k0, k1, k5, hl.len]
  cases c1 : decide ((i : Int) < (l.length : Int)) <;> simp only [go_sem, Nat.reduceEqDiff, k0, k1, k5, c1]
  ·rw [List.take_of_length_le (by have := Au c1; omega)] at hk
   exact ⟨hH, ⟨n, rfl, hn0, hn1⟩, hk⟩
  have hil : i < l.length := by have := As c1; omega
  have w1 := Ab ((i : Int) + 1) (by omega) (by omega)
  obtain ⟨id, p, o, ho, hr, hp, hia⟩ := hl.elem (B7 hil)
  have hr : (o.drop p).take 8 = T5 l[i] := hr
  unfold T5 at hr
  have key := f64 (H := H) (x := l[i]) (left := n) (hz _ (List.getElem_mem hil)) hn0 hn1
  simp only [go_sem, Nat.reduceEqDiff, k0, k1, k5, hia, hH, ho, hr, hp]
  refine Aa (fun m' h => key m' h) rfl hw fun r H' ⟨⟨n2, e, hn2⟩, e2⟩ => ?_
  subst e; subst e2
  simp only [go_sem, Nat.reduceEqDiff, k0, k5]
  cases q2 : decide (n2 < 0) <;> simp only [go_sem, Nat.reduceEqDiff, k0, k5, q2, w1]
  ·have h3 : 0 ≤ n2 := by have := Au q2; omega
   refine ⟨hil, ⟨n2, rfl, h3, (hn2 h3).1⟩, by simp, fun x hx => ?_⟩
   rw [List.take_succ_eq_append_getElem hil, List.mem_append, List.mem_singleton] at hx
   rcases hx with hx | hx
   ·exact hk x hx
   ·subst hx; exact (hn2 h3).2
  ·exact ⟨-1, rfl, fun h => by omega⟩
 ·rintro s ⟨hH, ⟨n, k1, hn0, hn1⟩, hk⟩
  simp only [go_sem, k1, hH]
  exact ⟨n, rfl, fun _ => ⟨hn1, by omega, hk⟩⟩
theorem f25 {H : Hp} {v : Value} {l : List Ch} {left : Int} (hl : Sl (gR H) 2 H v l) (h0 : 0 ≤ left) (h1 : left ≤ 1048576) : A4 EE 25 [v, .int .i64 left] H fun r => ∃ n : Int, r = .int .i64 n ∧ (0 ≤ n → n ≤ 1048576 ∧ l.length ≤ 1048576 ∧ ∀ x ∈ l, x.2.length ≤ 1048576) := by
 refine Ar rfl rfl k25 (by simp [tT]) fun m hw => ?_
 have hroom := hl.room
 simp only [go_sem, Nat.reduceEqDiff, tT, hl.len, Ab (left - (l.length : Int)) (by omega) (by omega)]
 refine Bf.intro (fun q1 => ?_) (fun q1 => ?_) <;> simp only [go_sem, Nat.reduceEqDiff]
 ·exact ⟨-1, rfl, fun h => by omega⟩
 have q1' := Au q1
 refine Ak l.length (fun i s => s.H = H ∧ s.ρ 0 = .val v ∧ (∃ n : Int, s.ρ 1 = .val (.int .i64 n) ∧ 0 ≤ n ∧ n ≤ 1048576) ∧ s.ρ 5 = .val (.int .i64 i) ∧ ∀ x ∈ l.take i, x.2.length ≤ 1048576) (fun s => s.H = H ∧ (∃ n : Int, s.ρ 1 = .val (.int .i64 n) ∧ 0 ≤ n ∧ n ≤ 1048576) ∧ ∀ x ∈ l, x.2.length ≤ 1048576) ?_ ?_ ?_
 ·exact ⟨rfl, by simp [Ah, Cb], ⟨left - l.length, by simp [Ah], by omega, by omega⟩, by simp [Ah], by simp⟩
 ·rintro i s hi ⟨hH, k0, ⟨n, k1, hn0, hn1⟩, k5, hk⟩
  simp only [go_sem, Nat.reduceEqDiff, k0, k1, k5, hl.len]
  cases c1 : decide ((i : Int) < (l.length : Int)) <;> simp only [go_sem, Nat.reduceEqDiff, k0, k1, k5, c1]
  ·rw [List.take_of_length_le (by have := Au c1; omega)] at hk
   exact ⟨hH, ⟨n, rfl, hn0, hn1⟩, hk⟩
  have hil : i < l.length := by have := As c1; omega
  have w1 := Ab ((i : Int) + 1) (by omega) (by omega)
  obtain ⟨id, p, o, ho, hrr, hp, hia⟩ := hl.elem (B7 hil)
  have hrr2 := hrr
  obtain ⟨rr, hr, hs⟩ := hrr2
  rw [hr] at hrr
  simp only [go_sem, Nat.reduceEqDiff, k0, k1, k5, hia, hH, ho, hr, hp]
  refine Aa (fun m' h => f65 hrr hn0 hn1 m' h) rfl hw fun r H' ⟨⟨n2, e, hn2⟩, e2⟩ => ?_
  subst e; subst e2
  simp only [go_sem, Nat.reduceEqDiff, k0, k5]
  cases q2 : decide (n2 < 0) <;> simp only [go_sem, Nat.reduceEqDiff, k0, k5, q2, w1]
  ·have h3 : 0 ≤ n2 := by have := Au q2; omega
   refine ⟨hil, ⟨n2, rfl, h3, (hn2 h3).1⟩, by simp, fun x hx => ?_⟩
   rw [List.take_succ_eq_append_getElem hil, List.mem_append, List.mem_singleton] at hx
   rcases hx with hx | hx
   ·exact hk x hx
   ·subst hx; exact (hn2 h3).2
  ·exact ⟨-1, rfl, fun h => by omega⟩
 ·rintro s ⟨hH, ⟨n, k1, hn0, hn1⟩, hk⟩
  simp only [go_sem, k1, hH]
  exact ⟨n, rfl, fun _ => ⟨hn1, by omega, hk⟩⟩
theorem f27 {H : Hp} {v : Value} {l : List I7} {left : Int} (hl : Sl (fE H) 15 H v l) (hz : ∀ z ∈ l, z.tk.size ≤ 9223372036854775807) (h0 : 0 ≤ left) (h1 : left ≤ 1048576) : A4 EE 27 [v, .int .i64 left] H fun r => ∃ n : Int, r = .int .i64 n ∧ (0 ≤ n → n ≤ 1048576 ∧ l.length ≤ 1048576 ∧ ∀ x ∈ l, x.pa.length ≤ 1048576 ∧ x.vi.length ≤ 1048576) := by
 refine Ar rfl rfl k27 (by simp [zU]) fun m hw => ?_
 have hroom := hl.room
 simp only [go_sem, Nat.reduceEqDiff, zU, hl.len, Ab (left - (l.length : Int)) (by omega) (by omega)]
 refine Bf.intro (fun q1 => ?_) (fun q1 => ?_) <;> simp only [go_sem, Nat.reduceEqDiff]
 ·exact ⟨-1, rfl, fun h => by omega⟩
 have q1' := Au q1
 refine Ak l.length (fun i s => s.H = H ∧ s.ρ 0 = .val v ∧ (∃ n : Int, s.ρ 1 = .val (.int .i64 n) ∧ 0 ≤ n ∧ n ≤ 1048576) ∧ s.ρ 5 = .val (.int .i64 i) ∧ ∀ x ∈ l.take i, x.pa.length ≤ 1048576 ∧ x.vi.length ≤ 1048576) (fun s => s.H = H ∧ (∃ n : Int, s.ρ 1 = .val (.int .i64 n) ∧ 0 ≤ n ∧ n ≤ 1048576) ∧ ∀ x ∈ l, x.pa.length ≤ 1048576 ∧ x.vi.length ≤ 1048576) ?_ ?_ ?_
 ·exact ⟨rfl, by simp [Ah, Cb], ⟨left - l.length, by simp [Ah], by omega, by omega⟩, by simp [Ah], by simp⟩
 ·rintro i s hi ⟨hH, k0, ⟨n, k1, hn0, hn1⟩, k5, hk⟩
  simp only [go_sem, Nat.reduceEqDiff, k0, k1, k5, hl.len]
  cases c1 : decide ((i : Int) < (l.length : Int)) <;> simp only [go_sem, Nat.reduceEqDiff, k0, k1, k5, c1]
  ·rw [List.take_of_length_le (by have := Au c1; omega)] at hk
   exact ⟨hH, ⟨n, rfl, hn0, hn1⟩, hk⟩
  have hil : i < l.length := by have := As c1; omega
  have w1 := Ab ((i : Int) + 1) (by omega) (by omega)
  obtain ⟨id, p, o, ho, hrr, hp, hia⟩ := hl.elem (B7 hil)
  have hrr2 := hrr
  obtain ⟨pp, pv, hr, hs1, hs2⟩ := hrr2
  rw [hr] at hrr
  simp only [go_sem, Nat.reduceEqDiff, k0, k1, k5, hia, hH, ho, hr, hp]
  refine Aa (fun m' h => f66 hrr (hz _ (List.getElem_mem hil)) hn0 hn1 m' h) rfl hw fun r H' ⟨⟨n2, e, hn2⟩, e2⟩ => ?_
  subst e; subst e2
  simp only [go_sem, Nat.reduceEqDiff, k0, k5]
  cases q2 : decide (n2 < 0) <;> simp only [go_sem, Nat.reduceEqDiff, k0, k5, q2, w1]
  ·have h3 : 0 ≤ n2 := by have := Au q2; omega
   refine ⟨hil, ⟨n2, rfl, h3, (hn2 h3).1⟩, by simp, fun x hx => ?_⟩
   rw [List.take_succ_eq_append_getElem hil, List.mem_append, List.mem_singleton] at hx
   rcases hx with hx | hx
   ·exact hk x hx
   ·subst hx; exact (hn2 h3).2
  ·exact ⟨-1, rfl, fun h => by omega⟩
 ·rintro s ⟨hH, ⟨n, k1, hn0, hn1⟩, hk⟩
  simp only [go_sem, k1, hH]
  exact ⟨n, rfl, fun _ => ⟨hn1, by omega, hk⟩⟩
def CfS (c : Ic) : Prop := c.ur.length ≤ 1048576 ∧ c.sr.length ≤ 1048576 ∧ c.lk.length ≤ 1048576 ∧ c.px.length ≤ 1048576
theorem f20 {H : Hp} {c : Ic} {u s l p : Value} {left : Int} (h : K5 H c u s l p) (h0 : 0 ≤ left) (h1 : left ≤ 1048576) : A4 EE 20 [.agg #[u, s, l, p, .int .i64 c.skew], .int .i64 left] H fun r => ∃ n : Int, r = .int .i64 n ∧ (0 ≤ n → n ≤ 1048576 ∧ CfS c) := by
 refine Ar rfl rfl T4 (by simp [wL]) fun m hw => ?_
 simp only [go_sem, Nat.reduceEqDiff, reduceCtorEq, wL]
 refine Aa (fun m' k => nR h.ur h0 h1 m' k) rfl hw fun r H' ⟨⟨n1, e, hn1⟩, e2⟩ => ?_
 subst e; subst e2
 simp only [go_sem, Nat.reduceEqDiff, reduceCtorEq]
 refine Bf.intro (fun q1 => ?_) (fun q1 => ?_) <;> simp only [go_sem, Nat.reduceEqDiff, reduceCtorEq]
 ·exact ⟨-1, rfl, fun h => by omega⟩
 have q1' := Au q1
 refine Aa (fun m' k => nR h.sr (by omega) (hn1 (by omega)).1 m' k) rfl hw fun r H' ⟨⟨n2, e, hn2⟩, e2⟩ => ?_
 subst e; subst e2
 simp only [go_sem, Nat.reduceEqDiff, reduceCtorEq]
 refine Bf.intro (fun q2 => ?_) (fun q2 => ?_) <;> simp only [go_sem, Nat.reduceEqDiff, reduceCtorEq]
 ·exact ⟨-1, rfl, fun h => by omega⟩
 have q2' := Au q2
 refine Aa (fun m' k => f63 h.lk (by omega) (hn2 (by omega)).1 m' k) rfl hw fun r H' ⟨⟨n3, e, hn3⟩, e2⟩ => ?_
 subst e; subst e2
 simp only [go_sem, Nat.reduceEqDiff, reduceCtorEq]
 refine Bf.intro (fun q3 => ?_) (fun q3 => ?_) <;> simp only [go_sem, Nat.reduceEqDiff, reduceCtorEq]
 ·exact ⟨-1, rfl, fun h => by omega⟩
 have q3' := Au q3
 refine Aa (fun m' k => f63 h.px (by omega) (hn3 (by omega)).1 m' k) rfl hw fun r H' ⟨⟨n4, e, hn4⟩, e2⟩ => ?_
 subst e; subst e2
 simp only [go_sem, Nat.reduceEqDiff]
 refine Bf.intro (fun q4 => ?_) (fun q4 => ?_) <;> simp only [go_sem, Nat.reduceEqDiff]
 ·exact ⟨-1, rfl, fun h => by omega⟩
 ·exact ⟨n4, rfl, fun h => ⟨(hn4 h).1, (hn1 (by omega)).2, (hn2 (by omega)).2, (hn3 (by omega)).2, (hn4 h).2⟩⟩
structure WdS (w : Wd) : Prop where
 cf : CfS w.cf
 net : w.net.length ≤ 1048576
 netz : ∀ z ∈ w.net, z.size ≤ 1048576
 tms : w.tms.length ≤ 1048576
 tmz : ∀ z ∈ w.tms, z.size ≤ 1048576
 kys : w.kys.length ≤ 1048576
 wts : w.wts.length ≤ 1048576
 crs : w.crs.length ≤ 1048576
 crz : ∀ x ∈ w.crs, x.2.2.2.2.2.size ≤ 1048576
 chs : w.chs.length ≤ 1048576
 ch : ∀ x ∈ w.chs, x.2.length ≤ 1048576
 log : w.log.length ≤ 1048576
 acs : w.acs.length ≤ 1048576
 ac : ∀ x ∈ w.acs, x.pa.length ≤ 1048576 ∧ x.vi.length ≤ 1048576
 lks : w.lks.length ≤ 1048576
structure yG (w : Wd) : Prop where
 net : ∀ z ∈ w.net, z.size ≤ 9223372036854775807
 tms : ∀ z ∈ w.tms, z.size ≤ 9223372036854775807
 crs : ∀ z ∈ w.crs, z.2.2.2.2.2.size ≤ 9223372036854775807 ∧ X5 z.2.2.1
 acs : ∀ z ∈ w.acs, z.tk.size ≤ 9223372036854775807
theorem yG.z {w : Wd} (h : yG w) (s : WdS w) : Vk w := ⟨fun z hz => by have := s.netz z hz; omega, fun z hz => by have := s.tmz z hz; omega, fun z hz => ⟨by have := s.crz z hz; omega, (h.crs z hz).2⟩⟩
theorem f7 {H : Hp} {w : Wd} {u s l p n t k a c h e x d : Value} {left : Int} (q : T7 H w u s l p n t k a c h e x d) (z : yG w) (h0 : 0 ≤ left) (h1 : left ≤ 1048576) :
  A4 EE 7 [.agg #[u, s, l, p, .int .i64 w.cf.skew, .int .i64 w.now, .int .i64 w.fresh, n, t, k, a, c, h, e, x, d], .int .i64 left] H fun r => ∃ n : Int, r = .int .i64 n ∧ (0 ≤ n → WdS w) := by
 refine Ar rfl rfl k7 (by simp [c7]) fun m hw => ?_
 simp only [go_sem, Nat.reduceEqDiff, reduceCtorEq, Nat.reduceLeDiff, c7]
 refine Aa (fun m' k => f20 q.cf h0 h1 m' k) rfl hw fun r H' ⟨⟨n1, e, hn1⟩, e2⟩ => ?_
 subst e; subst e2
 simp only [go_sem, Nat.reduceEqDiff, reduceCtorEq]
 refine Bf.intro (fun q1 => ?_) (fun q1 => ?_) <;> simp only [go_sem, Nat.reduceEqDiff, reduceCtorEq]
 ·exact ⟨-1, rfl, fun h => by omega⟩
 have q1' := Au q1
 refine Aa (fun m' k => f21 q.net z.net (by omega) (hn1 (by omega)).1 m' k) rfl hw fun r H' ⟨⟨n2, e, hn2⟩, e2⟩ => ?_
 subst e; subst e2
 simp only [go_sem, Nat.reduceEqDiff, reduceCtorEq]
 refine Bf.intro (fun q2 => ?_) (fun q2 => ?_) <;> simp only [go_sem, Nat.reduceEqDiff, reduceCtorEq, Nat.reduceLeDiff]
 ·exact ⟨-1, rfl, fun h => by omega⟩
 have q2' := Au q2
 refine Aa (fun m' k => f22 q.tms q.kys z.tms (by omega) (hn2 (by omega)).1 m' k) rfl hw fun r H' ⟨⟨n3, e, hn3⟩, e2⟩ => ?_
 subst e; subst e2
 simp only [go_sem, Nat.reduceEqDiff, reduceCtorEq]
 refine Bf.intro (fun q3 => ?_) (fun q3 => ?_) <;> simp only [go_sem, Nat.reduceEqDiff, reduceCtorEq]
 ·exact ⟨-1, rfl, fun h => by omega⟩
 have q3' := Au q3
 refine Aa (fun m' k => f23 q.wts (by omega) (hn3 (by omega)).1 m' k) rfl hw fun r H' ⟨⟨n4, e, hn4⟩, e2⟩ => ?_
 subst e; subst e2
 simp only [go_sem, Nat.reduceEqDiff, reduceCtorEq]
 refine Bf.intro (fun q4 => ?_) (fun q4 => ?_) <;> simp only [go_sem, Nat.reduceEqDiff, reduceCtorEq]
 ·exact ⟨-1, rfl, fun h => by omega⟩
 have q4' := Au q4
 refine Aa (fun m' k => f24 q.crs (fun y hy => (z.crs y hy).1) (by omega) (hn4 (by omega)).1 m' k) rfl hw fun r H' ⟨⟨n5, e, hn5⟩, e2⟩ => ?_
 subst e; subst e2
 simp only [go_sem, Nat.reduceEqDiff, reduceCtorEq]
 refine Bf.intro (fun q5 => ?_) (fun q5 => ?_) <;> simp only [go_sem, Nat.reduceEqDiff, reduceCtorEq]
 ·exact ⟨-1, rfl, fun h => by omega⟩
 have q5' := Au q5
 refine Aa (fun m' k => f25 q.chs (by omega) (hn5 (by omega)).1 m' k) rfl hw fun r H' ⟨⟨n6, e, hn6⟩, e2⟩ => ?_
 subst e; subst e2
 simp only [go_sem, Nat.reduceEqDiff, reduceCtorEq]
 refine Bf.intro (fun q6 => ?_) (fun q6 => ?_) <;> simp only [go_sem, Nat.reduceEqDiff, reduceCtorEq]
 ·exact ⟨-1, rfl, fun h => by omega⟩
 have q6' := Au q6
 refine Aa (fun m' k => f26 q.log (by omega) (hn6 (by omega)).1 m' k) rfl hw fun r H' ⟨⟨n7, e, hn7⟩, e2⟩ => ?_
 subst e; subst e2
 simp only [go_sem, Nat.reduceEqDiff, reduceCtorEq]
 refine Bf.intro (fun q7 => ?_) (fun q7 => ?_) <;> simp only [go_sem, Nat.reduceEqDiff, reduceCtorEq]
 ·exact ⟨-1, rfl, fun h => by omega⟩
 have q7' := Au q7
 refine Aa (fun m' k => f27 q.acs z.acs (by omega) (hn7 (by omega)).1 m' k) rfl hw fun r H' ⟨⟨n8, e, hn8⟩, e2⟩ => ?_
 subst e; subst e2
 simp only [go_sem, Nat.reduceEqDiff, reduceCtorEq]
 refine Bf.intro (fun q8 => ?_) (fun q8 => ?_) <;> simp only [go_sem, Nat.reduceEqDiff, reduceCtorEq]
 ·exact ⟨-1, rfl, fun h => by omega⟩
 have q8' := Au q8
 refine Aa (fun m' k => nR q.lks (by omega) (hn8 (by omega)).1 m' k) rfl hw fun r H' ⟨⟨n9, e, hn9⟩, e2⟩ => ?_
 subst e; subst e2
 simp only [go_sem, Nat.reduceEqDiff]
 refine Bf.intro (fun q9 => ?_) (fun q9 => ?_) <;> simp only [go_sem, Nat.reduceEqDiff]
 ·exact ⟨-1, rfl, fun h => by omega⟩
 have q9' := Au q9
 have g1 := (hn1 (by omega)).2; have g2 := (hn2 (by omega)).2; have g3 := (hn3 (by omega)).2; have g4 := (hn4 (by omega)).2; have g5 := (hn5 (by omega)).2; have g6 := (hn6 (by omega)).2; have g7 := (hn7 (by omega)).2; have g8 := (hn8 (by omega)).2; have g9 := (hn9 (by omega)).2
 exact ⟨n9, rfl, fun _ => ⟨g1, g2.1, g2.2, g3.1.1, g3.1.2, g3.2, g4, g5.1, g5.2, g6.1, g6.2, g7, g8.1, g8.2, g9⟩⟩
theorem Aq {E : Hb} {m : Md} {f : Nat} {vs : List Value} {H : Hp} {P : Value → Hp → Prop} {s : St} {d : Option Nat} {ts : List Tk} {Q : Ex → St → Prop} (h : Ci E m f vs H P) (hH : s.H = H)
  (hq : ∀ r H', P r H' → go E m ts { s with H := H', ρ := Ah s.ρ d (.val r) } Q) : Cj E m false f (some vs) s d ts Q := by
 subst hH
 unfold Cj Ss
 exact h.mono hq
section
variable (cs : List Value) (x : Value) (xs : List Value)
theorem qM : spl (x :: xs) 9 cs = x :: spl xs 8 cs := Gg cs x xs 8
theorem kY : spl (x :: xs) 10 cs = x :: spl xs 9 cs := Gg cs x xs 9
theorem jT : spl (x :: xs) 11 cs = x :: spl xs 10 cs := Gg cs x xs 10
theorem gE : spl (x :: xs) 12 cs = x :: spl xs 11 cs := Gg cs x xs 11
theorem kQ : spl (x :: xs) 13 cs = x :: spl xs 12 cs := Gg cs x xs 12
theorem lM : spl (x :: xs) 14 cs = x :: spl xs 13 cs := Gg cs x xs 13
theorem kF : spl (x :: xs) 15 cs = x :: spl xs 14 cs := Gg cs x xs 14
theorem jF : spl (x :: xs) 16 cs = x :: spl xs 15 cs := Gg cs x xs 15
end
attribute [go_sem] qM kY jT gE kQ lM kF jF
def R9 (x : Nat) (H : Hp) (c : Ch) (cs : List Value) : Prop := ∃ r, cs = [.int .i64 c.1, r] ∧ Hl H r c.2 ∧ ∀ j ∈ Ae r, x < j
def R6 (x : Nat) (H : Hp) (a : I7) (cs : List Value) : Prop := ∃ p v, cs = [.int .i64 a.sv, .int .i64 a.cl, .int .i64 a.ky, .int .i64 a.op, .int .i64 a.nw, .int .i64 a.au.1, .int .i64 a.au.2.1, .int .i64 a.au.2.2, .int .i64 a.rs.1, .int .i64 a.rs.2.1, .int .i64 a.rs.2.2, p, v, .int .i64 a.lk, .string a.tk] ∧ Bu H p a.pa ∧ Bu H v a.vi ∧ (∀ j ∈ Ae p, x < j) ∧ ∀ j ∈ Ae v, x < j
theorem R9.pre {x : Nat} {H H' : Hp} {c : Ch} {cs : List Value} (h : R9 x H c cs) (hp : H <+: H') : R9 x H' c cs := by
 obtain ⟨r, e, a, b⟩ := h
 exact ⟨r, e, a.pre hp, b⟩
theorem R6.pre {x : Nat} {H H' : Hp} {c : I7} {cs : List Value} (h : R6 x H c cs) (hp : H <+: H') : R6 x H' c cs := by
 obtain ⟨p, v, e, a, b, d⟩ := h
 exact ⟨p, v, e, a.pre hp, b.pre hp, d⟩
theorem R9.set {x : Nat} {H : Hp} {o : List Value} {c : Ch} {cs : List Value} (h : R9 x H c cs) : R9 x (H.set x o) c cs := by
 obtain ⟨r, e, a, b⟩ := h
 exact ⟨r, e, a.other (fun h => by have := b _ h; omega), b⟩
theorem R6.set {x : Nat} {H : Hp} {o : List Value} {c : I7} {cs : List Value} (h : R6 x H c cs) : R6 x (H.set x o) c cs := by
 obtain ⟨p, v, e, a, b, d, d2⟩ := h
 exact ⟨p, v, e, a.other (fun h => by have := d _ h; omega), b.other (fun h => by have := d2 _ h; omega), d, d2⟩
theorem R9.r {x : Nat} {H : Hp} {c : Ch} {cs : List Value} (h : R9 x H c cs) : gR H c cs := by
 obtain ⟨r, e, a, b⟩ := h
 exact ⟨r, e, a⟩
theorem R6.r {x : Nat} {H : Hp} {c : I7} {cs : List Value} (h : R6 x H c cs) : fE H c cs := by
 obtain ⟨p, v, e, a, b, d, d2⟩ := h
 exact ⟨p, v, e, a, b⟩
theorem ds (n : ByteArray) : decide (n = n) = true := by simp
theorem K5.vcs {H : Hp} {c : Ic} {u s l p : Value} (h : K5 H c u s l p) : vc u = some [u] ∧ vc s = some [s] ∧ vc l = some [l] ∧ vc p = some [p] := ⟨h.ur.vc, h.sr.vc, h.lk.vc, h.px.vc⟩
theorem T7.vcs {H : Hp} {w : Wd} {u s l p n t k a c h e x d : Value} (q : T7 H w u s l p n t k a c h e x d) : vc u = some [u] ∧ vc s = some [s] ∧ vc l = some [l] ∧ vc p = some [p] ∧ vc n = some [n] ∧ vc t = some [t] ∧ vc k = some [k] ∧ vc a = some [a] ∧ vc c = some [c] ∧ vc h = some [h] ∧ vc e = some [e] ∧ vc x = some [x] ∧ vc d = some [d] := ⟨q.cf.ur.vc, q.cf.sr.vc, q.cf.lk.vc, q.cf.px.vc, q.net.vc, q.tms.vc, q.kys.vc, q.wts.vc, q.crs.vc, q.chs.vc, q.log.vc, q.acs.vc, q.lks.vc⟩
def cn (k : Int) (l : List Pb) : Int := ((l.countP fun e => decide (e.kd = k) : Nat) : Int)
theorem Ie {k : Int} {l : List Pb} : 0 ≤ cn k l ∧ cn k l ≤ l.length := by
 unfold cn
 have := List.countP_le_length (p := fun e : Pb => decide (e.kd = k)) (l := l)
 omega
theorem Ip {k : Int} {l : List Pb} {i : Nat} (h : i < l.length) (h2 : l[i].kd = k) : cn k (l.take (i + 1)) = cn k (l.take i) + 1 := by
 unfold cn
 rw [List.take_succ_eq_append_getElem h, List.countP_append]
 simp [h2]
theorem Cc {k : Int} {l : List Pb} {i : Nat} (h : i < l.length) (h2 : ¬ l[i].kd = k) : cn k (l.take (i + 1)) = cn k (l.take i) := by
 unfold cn
 rw [List.take_succ_eq_append_getElem h, List.countP_append]
 simp [h2]
noncomputable def bN (w : Wd) : Value := if A6 w = true then .agg #[.int .i64 (cn 1 w.log), .int .i64 (cn 2 w.log), .int .i64 (cn 3 w.log), .int .i64 (cn 4 w.log), .int .i64 w.acs.length, .int .i64 w.lks.length] else .agg #[.int .i64 0, .int .i64 0, .int .i64 0, .int .i64 0, .int .i64 0, .int .i64 0]
theorem Wg (w : Wd) : A8 (bN w) = true := by
 unfold bN
 split <;> rfl
theorem Kx {w : Wd} (h : A6 w = true) : w.log.length ≤ 40 ∧ w.acs.length ≤ 40 ∧ w.lks.length ≤ 40 ∧ w.acs.all (E1 w.lks.length) = true := by
 unfold A6 at h
 simp only [Bool.and_eq_true, decide_eq_true_eq] at h
 exact ⟨h.2.2.2.2.2.2.2.2.1, h.2.2.2.2.2.2.2.2.2.1, h.2.2.2.2.2.2.2.2.2.2.1, h.2.2.2.2.2.2.2.2.2.2.2.2.2.2.2⟩
theorem fI {w : Wd} (h : A6 w = false) : bN w = .agg #[.int .i64 0, .int .i64 0, .int .i64 0, .int .i64 0, .int .i64 0, .int .i64 0] := by
 unfold bN
 rw [h]
 rfl
theorem Va {w : Wd} (h : A6 w = true) : bN w = .agg #[.int .i64 (cn 1 w.log), .int .i64 (cn 2 w.log), .int .i64 (cn 3 w.log), .int .i64 (cn 4 w.log), .int .i64 w.acs.length, .int .i64 w.lks.length] := by
 unfold bN
 rw [if_pos h]
theorem f8 {H : Hp} {w : Wd} {u s l p n t k a c h e x d : Value} (q : T7 H w u s l p n t k a c h e x d) (z : Vk w) : Aw EE 8 [.agg #[u, s, l, p, .int .i64 w.cf.skew, .int .i64 w.now, .int .i64 w.fresh, n, t, k, a, c, h, e, x, d]] H (bN w) := by
 refine Ag rfl rfl k8 (by simp [c8]) (Wg w) fun m hw => ?_
 have a19 := Ax (rA q z)
 have V := q.vcs
 simp only [go_sem, Nat.reduceEqDiff, reduceCtorEq, Nat.reduceLeDiff, c8, a19, hw, V, Fb, B5, Ba]
 cases q0 : A6 w <;> simp only [go_sem, Nat.reduceEqDiff, reduceCtorEq, Nat.reduceLeDiff, q0, V]
 ·rw [fI q0]
  try rfl
 obtain ⟨l1, l2, l3, l4⟩ := Kx q0
 refine Ak w.log.length (fun i s' => s'.H = H ∧ (∃ g, s'.ρ 1 = .bx g [u, s, l, p, .int .i64 w.cf.skew, .int .i64 w.now, .int .i64 w.fresh, n, t, k, a, c, h, e, x, d]) ∧ (∃ g, s'.ρ 3 = .bx g [.int .i64 (cn 1 (w.log.take i)), .int .i64 (cn 2 (w.log.take i)), .int .i64 (cn 3 (w.log.take i)), .int .i64 (cn 4 (w.log.take i)), .int .i64 0, .int .i64 0]) ∧ (∃ g, s'.ρ 2 = .bx g [.int .i64 0, .int .i64 0, .int .i64 0, .int .i64 0, .int .i64 0, .int .i64 0]) ∧ s'.ρ 4 = .val (.int .i64 i))
  (fun s' => s'.H = H ∧ (∃ g, s'.ρ 1 = .bx g [u, s, l, p, .int .i64 w.cf.skew, .int .i64 w.now, .int .i64 w.fresh, n, t, k, a, c, h, e, x, d]) ∧ (∃ g, s'.ρ 3 = .bx g [.int .i64 (cn 1 w.log), .int .i64 (cn 2 w.log), .int .i64 (cn 3 w.log), .int .i64 (cn 4 w.log), .int .i64 0, .int .i64 0]) ∧ (∃ g, s'.ρ 2 = .bx g [.int .i64 0, .int .i64 0, .int .i64 0, .int .i64 0, .int .i64 0, .int .i64 0])) ?_ ?_ ?_
 ·refine ⟨rfl, ⟨_, by simp [Ah, Cb]; rfl⟩, ⟨_, by simp [Ah, Cb, cn]; rfl⟩, ⟨_, by simp [Ah, Cb]; rfl⟩, by simp [Ah]⟩
 ·rintro i s' hi ⟨hH, ⟨g, k1⟩, ⟨g3, k3⟩, ⟨g2, k2⟩, k4⟩
  simp only [go_sem, Nat.reduceEqDiff, reduceCtorEq, Nat.reduceLeDiff, k1, k3, k2, k4, q.log.len]
  cases c1 : decide ((i : Int) < (w.log.length : Int)) <;> simp only [go_sem, Nat.reduceEqDiff, reduceCtorEq, Nat.reduceLeDiff, k1, k3, k2, k4, c1]
  ·rw [List.take_of_length_le (by have := Au c1; omega)]
   exact ⟨hH, ⟨_, rfl⟩, ⟨_, rfl⟩, ⟨_, rfl⟩⟩
  have hil : i < w.log.length := by have := As c1; omega
  have w1 := Ab ((i : Int) + 1) (by omega) (by omega)
  obtain ⟨id, b, o, ho, hr, hb, hia⟩ := q.log.elem (B7 hil)
  have hr : (o.drop b).take 11 = Rt w.log[i] := hr
  unfold Rt at hr
  have g0 : o[b]? = some (.int .i64 w.log[i].kd) := by simpa using Al hr (j := 0) (by omega)
  simp only [go_sem, Nat.reduceEqDiff, reduceCtorEq, Nat.reduceLeDiff, k1, k3, k2, k4, hia, hH, ho, g0]
  have b1 := Ie (k := 1) (l := w.log.take i); have b2 := Ie (k := 2) (l := w.log.take i); have b3 := Ie (k := 3) (l := w.log.take i); have b4 := Ie (k := 4) (l := w.log.take i)
  rw [List.length_take] at b1 b2 b3 b4
  have x1 := Ab (cn 1 (w.log.take i) + 1) (by omega) (by omega)
  have x2 := Ab (cn 2 (w.log.take i) + 1) (by omega) (by omega)
  have x3 := Ab (cn 3 (w.log.take i) + 1) (by omega) (by omega)
  have x4 := Ab (cn 4 (w.log.take i) + 1) (by omega) (by omega)
  cases q1 : decide (w.log[i].kd = 1) <;> simp only [go_sem, Nat.reduceEqDiff, reduceCtorEq, Nat.reduceLeDiff, k1, k2, k3, k4, q1, x1, x2, x3, x4, w1]
  rotate_left
  ·have e := As q1
   rw [Ip (k := 1) hil e, Cc (k := 2) hil (by omega), Cc (k := 3) hil (by omega), Cc (k := 4) hil (by omega)]
   exact ⟨hil, ⟨_, rfl⟩, ⟨_, rfl⟩, ⟨_, rfl⟩, by simp⟩
  cases q2 : decide (w.log[i].kd = 2) <;> simp only [go_sem, Nat.reduceEqDiff, reduceCtorEq, Nat.reduceLeDiff, k1, k2, k3, k4, q2, x1, x2, x3, x4, w1]
  rotate_left
  ·have e := As q2
   rw [Cc (k := 1) hil (by omega), Ip (k := 2) hil e, Cc (k := 3) hil (by omega), Cc (k := 4) hil (by omega)]
   exact ⟨hil, ⟨_, rfl⟩, ⟨_, rfl⟩, ⟨_, rfl⟩, by simp⟩
  cases q3 : decide (w.log[i].kd = 3) <;> simp only [go_sem, Nat.reduceEqDiff, reduceCtorEq, Nat.reduceLeDiff, k1, k2, k3, k4, q3, x1, x2, x3, x4, w1]
  rotate_left
  ·have e := As q3
   rw [Cc (k := 1) hil (by omega), Cc (k := 2) hil (by omega), Ip (k := 3) hil e, Cc (k := 4) hil (by omega)]
   exact ⟨hil, ⟨_, rfl⟩, ⟨_, rfl⟩, ⟨_, rfl⟩, by simp⟩
  cases q4 : decide (w.log[i].kd = 4) <;> simp only [go_sem, Nat.reduceEqDiff, reduceCtorEq, Nat.reduceLeDiff, k1, k2, k3, k4, q4, x1, x2, x3, x4, w1]
  rotate_left
  ·have e := As q4
   rw [Cc (k := 1) hil (by omega), Cc (k := 2) hil (by omega), Cc (k := 3) hil (by omega), Ip (k := 4) hil e]
   exact ⟨hil, ⟨_, rfl⟩, ⟨_, rfl⟩, ⟨_, rfl⟩, by simp⟩
  have n1 := Au q1; have n2 := Au q2; have n3 := Au q3; have n4 := Au q4
  rw [Cc (k := 1) hil n1, Cc (k := 2) hil n2, Cc (k := 3) hil n3, Cc (k := 4) hil n4]
  exact ⟨hil, ⟨_, rfl⟩, ⟨_, rfl⟩, ⟨_, rfl⟩, by simp⟩
 ·rintro s' ⟨hH, ⟨g, k1⟩, ⟨g3, k3⟩, ⟨g2, k2⟩⟩
  simp only [go_sem, Nat.reduceEqDiff, reduceCtorEq, Nat.reduceLeDiff, k1, k3, k2, hH, q.acs.len, q.lks.len]
  rw [Va q0]
  try exact ⟨rfl, rfl⟩
theorem f10 {H : Hp} {w : Wd} {u s l p n t k a c h e x d : Value} (q : T7 H w u s l p n t k a c h e x d) (z : Vk w) : Aw EE 10 [.agg #[u, s, l, p, .int .i64 w.cf.skew, .int .i64 w.now, .int .i64 w.fresh, n, t, k, a, c, h, e, x, d]] H (bN w) := by
 refine Ag rfl rfl k10 (by simp [eY]) (Wg w) fun m hw => ?_
 have a38 := Ax (yQ q z)
 have V := q.vcs
 simp only [go_sem, Nat.reduceEqDiff, reduceCtorEq, Nat.reduceLeDiff, eY, a38, hw, V, Fb, B5, Ba]
 cases q0 : A6 w <;> simp only [go_sem, Nat.reduceEqDiff, reduceCtorEq, Nat.reduceLeDiff, q0, V, q.acs.len, q.lks.len, q.log.len, Fb, B5, Ba]
 ·rw [fI q0]
  try rfl
 obtain ⟨l1, l2, l3, l4⟩ := Kx q0
 refine Ak w.log.length (fun i s' => s'.H = H ∧ (∃ g, s'.ρ 3 = .bx g [.int .i64 (cn 1 (w.log.take i)), .int .i64 (cn 2 (w.log.take i)), .int .i64 (cn 3 (w.log.take i)), .int .i64 (cn 4 (w.log.take i)), .int .i64 w.acs.length, .int .i64 w.lks.length]) ∧ (∃ g, s'.ρ 2 = .bx g [.int .i64 0, .int .i64 0, .int .i64 0, .int .i64 0, .int .i64 0, .int .i64 0]) ∧ s'.ρ 18 = .val e ∧ s'.ρ 19 = .val (.int .i64 w.log.length) ∧ s'.ρ 20 = .val (.int .i64 i))
  (fun s' => s'.H = H ∧ (∃ g, s'.ρ 3 = .bx g [.int .i64 (cn 1 w.log), .int .i64 (cn 2 w.log), .int .i64 (cn 3 w.log), .int .i64 (cn 4 w.log), .int .i64 w.acs.length, .int .i64 w.lks.length]) ∧ (∃ g, s'.ρ 2 = .bx g [.int .i64 0, .int .i64 0, .int .i64 0, .int .i64 0, .int .i64 0, .int .i64 0])) ?_ ?_ ?_
 ·refine ⟨rfl, ⟨_, by simp [Ah, Cb, cn]; rfl⟩, ⟨_, by simp [Ah, Cb]; rfl⟩, by simp [Ah], by simp [Ah], by simp [Ah]⟩
 ·rintro i s' hi ⟨hH, ⟨g3, k3⟩, ⟨g2, k2⟩, cS, T6, T4⟩
  simp only [go_sem, Nat.reduceEqDiff, reduceCtorEq, Nat.reduceLeDiff, k3, k2, cS, T6, T4]
  cases c1 : decide ((i : Int) < (w.log.length : Int)) <;> simp only [go_sem, Nat.reduceEqDiff, reduceCtorEq, Nat.reduceLeDiff, k3, k2, cS, T6, T4, c1]
  ·rw [List.take_of_length_le (by have := Au c1; omega)]
   exact ⟨hH, ⟨_, rfl⟩, ⟨_, rfl⟩⟩
  have hil : i < w.log.length := by have := As c1; omega
  have w1 := Ab ((i : Int) + 1) (by omega) (by omega)
  obtain ⟨id, b, o, ho, hr, hb, hia⟩ := q.log.elem (B7 hil)
  have hr : (o.drop b).take 11 = Rt w.log[i] := hr
  unfold Rt at hr
  simp only [go_sem, Nat.reduceEqDiff, reduceCtorEq, Nat.reduceLeDiff, k3, k2, cS, T6, T4, hia, hH, ho, hr, hb]
  have b1 := Ie (k := 1) (l := w.log.take i); have b2 := Ie (k := 2) (l := w.log.take i); have b3 := Ie (k := 3) (l := w.log.take i); have b4 := Ie (k := 4) (l := w.log.take i)
  rw [List.length_take] at b1 b2 b3 b4
  have x1 := Ab (cn 1 (w.log.take i) + 1) (by omega) (by omega)
  have x2 := Ab (cn 2 (w.log.take i) + 1) (by omega) (by omega)
  have x3 := Ab (cn 3 (w.log.take i) + 1) (by omega) (by omega)
  have x4 := Ab (cn 4 (w.log.take i) + 1) (by omega) (by omega)
  cases q1 : decide (w.log[i].kd = 1) <;> simp only [go_sem, Nat.reduceEqDiff, reduceCtorEq, Nat.reduceLeDiff, k2, k3, cS, T6, T4, q1, x1, x2, x3, x4, w1]
  rotate_left
  ·have e := As q1
   rw [Ip (k := 1) hil e, Cc (k := 2) hil (by omega), Cc (k := 3) hil (by omega), Cc (k := 4) hil (by omega)]
   exact ⟨hil, ⟨_, rfl⟩, ⟨_, rfl⟩, by simp⟩
  cases q2 : decide (w.log[i].kd = 2) <;> simp only [go_sem, Nat.reduceEqDiff, reduceCtorEq, Nat.reduceLeDiff, k2, k3, cS, T6, T4, q2, x1, x2, x3, x4, w1]
  rotate_left
  ·have e := As q2
   rw [Cc (k := 1) hil (by omega), Ip (k := 2) hil e, Cc (k := 3) hil (by omega), Cc (k := 4) hil (by omega)]
   exact ⟨hil, ⟨_, rfl⟩, ⟨_, rfl⟩, by simp⟩
  cases q3 : decide (w.log[i].kd = 3) <;> simp only [go_sem, Nat.reduceEqDiff, reduceCtorEq, Nat.reduceLeDiff, k2, k3, cS, T6, T4, q3, x1, x2, x3, x4, w1]
  rotate_left
  ·have e := As q3
   rw [Cc (k := 1) hil (by omega), Cc (k := 2) hil (by omega), Ip (k := 3) hil e, Cc (k := 4) hil (by omega)]
   exact ⟨hil, ⟨_, rfl⟩, ⟨_, rfl⟩, by simp⟩
  cases q4 : decide (w.log[i].kd = 4) <;> simp only [go_sem, Nat.reduceEqDiff, reduceCtorEq, Nat.reduceLeDiff, k2, k3, cS, T6, T4, q4, x1, x2, x3, x4, w1]
  rotate_left
  ·have e := As q4
   rw [Cc (k := 1) hil (by omega), Cc (k := 2) hil (by omega), Cc (k := 3) hil (by omega), Ip (k := 4) hil e]
   exact ⟨hil, ⟨_, rfl⟩, ⟨_, rfl⟩, by simp⟩
  have n1 := Au q1; have n2 := Au q2; have n3 := Au q3; have n4 := Au q4
  rw [Cc (k := 1) hil n1, Cc (k := 2) hil n2, Cc (k := 3) hil n3, Cc (k := 4) hil n4]
  exact ⟨hil, ⟨_, rfl⟩, ⟨_, rfl⟩, by simp⟩
 ·rintro s' ⟨hH, ⟨g3, k3⟩, ⟨g2, k2⟩⟩
  simp only [go_sem, Nat.reduceEqDiff, k3, k2, hH]
  rw [Va q0]
  try exact ⟨rfl, rfl⟩
theorem pL (w : Wd) : ∃ c1 c2 c3 c4 c5 c6 : Int, bN w = .agg #[.int .i64 c1, .int .i64 c2, .int .i64 c3, .int .i64 c4, .int .i64 c5, .int .i64 c6] := by
 unfold bN
 split
 ·exact ⟨_, _, _, _, _, _, rfl⟩
 ·exact ⟨_, _, _, _, _, _, rfl⟩
def nN (n : Int) : Int := IntKind.i64.wrap (n.tdiv 10)
def F5 (n : Int) : Nat → Int
 | 0 => n
 | k + 1 => nN (F5 n k)
theorem dA (n : Int) : -9223372036854775808 ≤ IntKind.i64.wrap n ∧ IntKind.i64.wrap n < 9223372036854775808 := by
 simp [IntKind.wrap, IntKind.bits, IntKind.signed]
 omega
theorem aS (n : Int) : (n.tdiv 10).natAbs = n.natAbs / 10 := by
 rw [Int.natAbs_tdiv]
 rfl
theorem nJ {n : Int} (h : n.natAbs ≤ 9223372036854775808) : (nN n).natAbs = n.natAbs / 10 := by
 unfold nN
 have h1 := aS n
 rw [Ab _ (by omega) (by omega), h1]
theorem Zw (n : Int) : ∀ k, (F5 n (k + 1)).natAbs ≤ 9223372036854775808 / 10 ^ k
 | 0 => by
  have := dA ((F5 n 0).tdiv 10)
  show (nN (F5 n 0)).natAbs ≤ _
  unfold nN
  simp only [Nat.pow_zero, Nat.div_one]
  omega
 | k + 1 => by
  have h := Zw n k
  have h2 : (F5 n (k + 1)).natAbs ≤ 9223372036854775808 := C8 h (Nat.div_le_self _ _)
  show (nN (F5 n (k + 1))).natAbs ≤ _
  rw [nJ h2, Nat.pow_succ, ← Nat.div_div_eq_div_mul]
  exact Nat.div_le_div_right h
theorem iQ (n : Int) : F5 n 20 = 0 := by
 have := Zw n 19
 have h : 9223372036854775808 / 10 ^ 19 = 0 := by decide
 rw [h] at this
 exact Int.natAbs_eq_zero.1 (Nat.le_zero.1 this)
theorem Yv (n : Int) : ∃ K, K ≤ 20 ∧ F5 n K = 0 ∧ ∀ k, k < K → F5 n k ≠ 0 := by
 have : ∀ m, (∃ K, K ≤ m ∧ F5 n K = 0 ∧ ∀ k, k < K → F5 n k ≠ 0) ∨ ∀ k, k ≤ m → F5 n k ≠ 0 := fun m => by
  induction m with
  | zero =>
   by_cases h : F5 n 0 = 0
   ·exact .inl ⟨0, Nat.le_refl _, h, fun k hk => by omega⟩
   ·exact .inr fun k hk => by
     have : k = 0 := by omega
     subst this; exact h
  | succ m ih =>
   rcases ih with ⟨K, h1, h2, h3⟩ | h
   ·exact .inl ⟨K, by omega, h2, h3⟩
   ·by_cases h4 : F5 n (m + 1) = 0
    ·exact .inl ⟨m + 1, Nat.le_refl _, h4, fun k hk => h k (by omega)⟩
    ·exact .inr fun k hk => by
      by_cases e : k = m + 1
      ·subst e; exact h4
      ·exact h k (by omega)
 rcases this 20 with h | h
 ·exact h
 ·exact absurd (iQ n) (h 20 (Nat.le_refl _))
noncomputable def Ia (n : Int) : Nat := Classical.choose (Yv n)
theorem Rb (n : Int) : Ia n ≤ 20 ∧ F5 n (Ia n) = 0 ∧ ∀ k, k < Ia n → F5 n k ≠ 0 := Classical.choose_spec (Yv n)
def Mc (n : Int) : Nat := 48 + (n.tmod 10).natAbs
theorem Rw (n : Int) : Mc n < 58 := by
 unfold Mc
 have : (n.tmod 10).natAbs = n.natAbs % 10 := by rw [Int.natAbs_tmod]; rfl
 omega
noncomputable def Xw (n : Int) : List Nat := (List.range (Ia n)).map fun k => Mc (F5 n k)
noncomputable def Rd (n : Int) : List Nat := if n = 0 then [48] else (if n < 0 then [45] else []) ++ (Xw n).reverse
noncomputable def Bb (n : Int) : ByteArray := Bo (Rd n)
theorem Nr (n : Int) : (Xw n).length = Ia n := by simp [Xw]
theorem Z7 (n : Int) : (Rd n).length ≤ 21 := by
 unfold Rd
 have := (Rb n).1
 split
 ·simp
 ·split <;> simp [Nr] <;> omega
theorem Dq (n : Int) : (Bb n).size ≤ 21 := by
 unfold Bb
 rw [Cf]
 exact Z7 n
theorem Zl {n : Int} : ∀ x ∈ Xw n, x < 58 := fun x hx => by
 unfold Xw at hx
 obtain ⟨k, _, rfl⟩ := List.mem_map.1 hx
 exact Rw _
theorem Qg (a b : List Nat) : Bo (a ++ b) = Bo a ++ Bo b := by
 unfold Bo
 rw [List.map_append]
 rfl
theorem Zb (n : Int) : IntKind.u8.wrap (IntKind.i64.wrap (48 + (if n.tmod 10 < 0 then IntKind.i64.wrap (0 - n.tmod 10) else n.tmod 10))) = (Mc n : Int) := by
 have h := Rw n
 unfold Mc at h ⊢
 have e : (if n.tmod 10 < 0 then IntKind.i64.wrap (0 - n.tmod 10) else n.tmod 10) = ((n.tmod 10).natAbs : Int) := by
  split
  ·rw [Ab _ (by omega) (by omega)]; omega
  ·omega
 rw [e, Ab _ (by omega) (by omega)]
 simp [IntKind.wrap, IntKind.bits, IntKind.signed]
 omega
theorem Sn {n : Int} {i : Nat} : ((List.range (i + 1)).map fun k => Mc (F5 n k)) = ((List.range i).map fun k => Mc (F5 n k)) ++ [Mc (F5 n i)] := by
 rw [List.range_succ, List.map_append]
 rfl
theorem pP {b : Nat} (h : b < 256) : Hj [Value.int .u8 (b : Int)] = some [UInt8.ofNat b] := by
 have := Jn (l := [b]) (by simpa using h)
 simpa using this
theorem yJ {H : Hp} {a : Nat} : My (H ++ [[.int .u8 (a : Int)]]) (.slice (some ⟨H.length, 0, some 1⟩) 1 (1 * 1)) [a] := .inr ⟨H.length, 0, 1, [.int .u8 (a : Int)], rfl, by simp, by simp, by simp, by simp, fun i b hi => by
 cases i with
 | zero => simp at hi; subst hi; rfl
 | succ i => simp at hi⟩
theorem eE {H : Hp} {n : Int} : Aw EE 49 [.int .i64 n] H (.string (Bb n)) := by
 refine Ag rfl rfl k49 (by simp [xO]) rfl fun m hw => ?_
 obtain ⟨hK, h0, hne⟩ := Rb n
 simp only [go_sem, Nat.reduceEqDiff, xO]
 cases q0 : decide (n = 0) <;> simp only [go_sem, Nat.reduceEqDiff, q0]
 rotate_left
 ·have := As q0
  subst this
  rfl
 have hn0 : ¬ n = 0 := Au q0
 refine Ak (Ia n) (fun i s => H <+: s.H ∧ s.ρ 0 = .val (.int .i64 (F5 n i)) ∧ s.ρ 4 = .val (.bool (decide (n < 0))) ∧ s.ρ 3 = .val (.string (Bo ((List.range i).map fun k => Mc (F5 n k)).reverse)))
  (fun s => H <+: s.H ∧ s.ρ 4 = .val (.bool (decide (n < 0))) ∧ s.ρ 3 = .val (.string (Bo (Xw n).reverse))) ?_ ?_ ?_
 ·exact ⟨List.prefix_refl _, by simp [Ah, Cb, F5], by simp [Ah], by simp [Ah, Bo]⟩
 ·rintro i s hi ⟨hH, k0, k4, k3⟩
  simp only [go_sem, Nat.reduceEqDiff, k0, k4, k3]
  cases q1 : decide (F5 n i = 0) <;> simp only [go_sem, Nat.reduceEqDiff, k0, k4, k3, q1]
  rotate_left
  ·have e1 := As q1
   have : i = Ia n := by
    by_cases e : i < Ia n
    ·exact absurd e1 (hne i e)
    ·omega
   subst this
   exact ⟨hH, rfl⟩
  have e1 := Au q1
  have hil : i < Ia n := by
   by_cases e : i < Ia n
   ·exact e
   ·have : i = Ia n := by omega
    subst this
    exact absurd h0 e1
  have hd := Zb (F5 n i)
  have hb := pP (show Mc (F5 n i) < 256 by have := Rw (F5 n i); omega)
  have hsz : 1 + (List.map (fun k => Mc (F5 n k)) (List.range i)).reverse.length ≤ 9223372036854775807 := by simp; omega
  have w2 : Wr m s.H := hw.pre hH
  have ne : ((10 : Int) = 0) = False := by simp
  have hrev : (List.map (fun k => Mc (F5 n k)) (List.range (i + 1))).reverse = Mc (F5 n i) :: (List.map (fun k => Mc (F5 n k)) (List.range i)).reverse := by rw [Sn, List.reverse_append]; rfl
  have hst : Bo (Mc (F5 n i) :: (List.map (fun k => Mc (F5 n k)) (List.range i)).reverse) = Bo [Mc (F5 n i)] ++ Bo (List.map (fun k => Mc (F5 n k)) (List.range i)).reverse := Qg [_] _
  simp only [go_sem, Nat.reduceEqDiff, k0, k4, k3, ne]
  have hsl := yJ (H := s.H) (a := Mc (F5 n i))
  have hb2 := hsl.b2s (fun x hx => by simp only [List.mem_singleton] at hx; subst hx; have := Rw (F5 n i); omega)
  have hs1 : (Bo [Mc (F5 n i)]).size + (Bo (List.map (fun k => Mc (F5 n k)) (List.range i)).reverse).size ≤ 9223372036854775807 := by rw [Cf, Cf]; simp; omega
  have fin : Bo [Mc (F5 n i)] ++ Bo (List.map (fun k => Mc (F5 n k)) (List.range i)).reverse = Bo (List.map (fun k => Mc (F5 n k)) (List.range i ++ [i])).reverse := by rw [← List.range_succ, hrev, hst]
  cases q2 : decide ((F5 n i).tmod 10 < 0) <;> simp only [go_sem, Nat.reduceEqDiff, k0, k4, k3, q2]
  ·rw [if_neg (Au q2)] at hd
   simp only [go_sem, Nat.reduceEqDiff, Nat.reduceMul, k0, k4, k3, hd, hb2, hs1, ne]
   exact ⟨hil, hH.trans (Eg), rfl, by rw [fin]⟩
  ·rw [if_pos (As q2)] at hd
   simp only [go_sem, Nat.reduceEqDiff, Nat.reduceMul, k0, k4, k3, hd, hb2, hs1, ne]
   exact ⟨hil, hH.trans (Eg), rfl, by rw [fin]⟩
 ·rintro s ⟨hH, k4, k3⟩
  have htk : s.H.take H.length = H := (List.prefix_iff_eq_take.1 hH).symm
  have e1 : Rd n = (if n < 0 then [45] else []) ++ (Xw n).reverse := by unfold Rd; rw [if_neg hn0]
  have hs2 : (Bo [45]).size + (Bo (Xw n).reverse).size ≤ 9223372036854775807 := by rw [Cf, Cf]; simp [Nr]; omega
  have h45 : Bo [45] = ⟨#[45]⟩ := rfl
  rw [h45] at hs2
  simp only [go_sem, Nat.reduceEqDiff, k4, k3]
  cases q1 : decide (n < 0) <;> simp only [go_sem, Nat.reduceEqDiff, q1, k3, hs2]
  ·rw [if_neg (Au q1)] at e1
   refine ⟨?_, htk⟩
   unfold Bb
   rw [e1]
   rfl
  ·rw [if_pos (As q1)] at e1
   refine ⟨?_, htk⟩
   unfold Bb
   rw [e1, Qg, h45]
theorem cQ {esz i : Nat} {v : Value} {a b : Option Addr} (h1 : ∀ (s : St) (x y : X), Av s.ρ x = some v → Av s.ρ y = some (.int .i64 i) → B4 s esz x y = some (.val (.pointer a), s)) (h2 : ∀ (s : St) (x y : X), Av s.ρ x = some v → Av s.ρ y = some (.int .i64 i) → B4 s esz x y = some (.val (.pointer b), s)) : a = b := by
 have e1 := h1 { ρ := fun t => if t = 0 then .val v else .val (.int .i64 i), gn := 0, H := [] } (.t 0) (.t 1) rfl rfl
 have e2 := h2 { ρ := fun t => if t = 0 then .val v else .val (.int .i64 i), gn := 0, H := [] } (.t 0) (.t 1) rfl rfl
 rw [e1] at e2
 simp only [Option.some.injEq, Prod.mk.injEq, FV.val.injEq, Value.pointer.injEq, and_true] at e2
 exact e2
theorem Sl.swapN {H : Hp} {v : Value} {L : List Nat} (h : My H v L) {i j : Nat} (hi : i < L.length) (hj : j < L.length) : ∃ id pi pj o, H[id]? = some o ∧ o[pi]? = some (.int .u8 (L[i] : Int)) ∧ o[pj]? = some (.int .u8 (L[j] : Int)) ∧ pi + 1 ≤ o.length ∧ pj + 1 ≤ o.length ∧ Ae v = [id] ∧ id < H.length ∧
  (∀ (s : St) (x y : X), Av s.ρ x = some v → Av s.ρ y = some (.int .i64 i) → B4 s 1 x y = some (.val (.pointer (some ⟨id, pi, some o.length⟩)), s)) ∧
  (∀ (s : St) (x y : X), Av s.ρ x = some v → Av s.ρ y = some (.int .i64 j) → B4 s 1 x y = some (.val (.pointer (some ⟨id, pj, some o.length⟩)), s)) ∧
  My (H.set id (spl (spl o pi [.int .u8 (L[j] : Int)]) pj [.int .u8 (L[i] : Int)])) v ((L.set i L[j]).set j L[i]) := by
 obtain ⟨id, p, o, ho, hp, hid, hr, hia, hst⟩ := h.both hi
 obtain ⟨id', p', o', ho', hp', hid', hr', hia', hst'⟩ := h.both hj
 have e1 : id' = id := by rw [hid] at hid'; simpa using hid'.symm
 subst e1
 rw [ho] at ho'
 cases ho'
 have hidl := (Em ho).1
 have s1 := hst L[j] (eN L[j]) rfl rfl
 obtain ⟨id2, p2, o2, c1, c2, c3, c4, c5, c6⟩ := s1.both (i := j) (by rw [List.length_set]; exact hj)
 have e2 : id2 = id' := by rw [hid] at c3; simpa using c3.symm
 subst e2
 rw [List.getElem?_set_self hidl] at c1
 cases c1
 have hpt := cQ hia' c5
 simp only [Option.some.injEq, Addr.mk.injEq] at hpt
 have e3 : p2 = p' := hpt.2.1.symm
 subst e3
 have s2 := c6 L[i] (eN L[i]) rfl rfl
 rw [List.set_set] at s2
 refine ⟨id2, p, p2, o, ho, ?_, ?_, hp, hp', hid, hidl, hia, hia', s2⟩
 ·unfold En at hr
  simpa [eN] using Al hr (j := 0) (by omega)
 ·unfold En at hr'
  simpa [eN] using Al hr' (j := 0) (by omega)
theorem aQ {L L' : List Nat} {i : Nat} (hl : L'.length = L.length) (hi : i + i + 1 < L.length) (h : ∀ x, (hx : x < L.length) → L'[x]? = if x < i ∨ L.length - i ≤ x then L[L.length - 1 - x]? else L[x]?) :
  ∀ x, (hx : x < L.length) → ((L'.set i (L'[L.length - 1 - i]'(by omega))).set (L.length - 1 - i) (L'[i]'(by omega)))[x]? = if x < i + 1 ∨ L.length - (i + 1) ≤ x then L[L.length - 1 - x]? else L[x]? := fun x hx => by
 have a1 := h i (by omega)
 have a2 := h (L.length - 1 - i) (by omega)
 rw [if_neg (by omega), B7 (show i < L'.length by omega)] at a1
 rw [if_neg (by omega), B7 (show L.length - 1 - i < L'.length by omega)] at a2
 rw [List.getElem?_set, List.length_set, List.getElem?_set]
 by_cases e1 : L.length - 1 - i = x
 ·rw [if_pos e1, if_pos (by omega), if_pos (by omega), a1]
  congr 1
  omega
 ·rw [if_neg e1]
  by_cases e2 : i = x
  ·rw [if_pos e2, if_pos (by omega), if_pos (by omega), a2]
   congr 1
   omega
  ·rw [if_neg e2, h x hx]
   by_cases e3 : x < i ∨ L.length - i ≤ x
   ·rw [if_pos e3, if_pos (by omega)]
   ·rw [if_neg e3, if_neg (by omega)]
theorem dY {L L' : List Nat} {i : Nat} (hl : L'.length = L.length) (hi : ¬ i + i + 1 < L.length) (h : ∀ x, (hx : x < L.length) → L'[x]? = if x < i ∨ L.length - i ≤ x then L[L.length - 1 - x]? else L[x]?) : L' = L.reverse := by
 refine List.ext_getElem? fun x => ?_
 by_cases hx : x < L.length
 ·rw [h x hx, List.getElem?_reverse hx]
  split
  ·rfl
  ·congr 1
   omega
 ·rw [List.getElem?_eq_none (by omega), List.getElem?_eq_none (by simp; omega)]
theorem f90 {H : Hp} {n : Int} : Aw EE 90 [.int .i64 n] H (.string (Bb n)) := by
 refine Ag rfl rfl k90 (by simp [sN]) rfl fun m hw => ?_
 obtain ⟨hK, h0, hne⟩ := Rb n
 simp only [go_sem, Nat.reduceEqDiff, sN]
 cases q0 : decide (n = 0) <;> simp only [go_sem, Nat.reduceEqDiff, q0]
 rotate_left
 ·have := As q0
  subst this
  rfl
 have hn0 : ¬ n = 0 := Au q0
 have ne : ((10 : Int) = 0) = False := by simp
 have e1 : Rd n = (if n < 0 then [45] else []) ++ (Xw n).reverse := by unfold Rd; rw [if_neg hn0]
 refine Ak (Ia n) (fun i s => H <+: s.H ∧ s.ρ 0 = .val (.int .i64 n) ∧ s.ρ 4 = .val (.int .i64 (F5 n i)) ∧ ∃ v, s.ρ 3 = .val v ∧ My s.H v ((List.range i).map fun k => Mc (F5 n k)) ∧ Ao H.length v)
  (fun s => H <+: s.H ∧ s.ρ 0 = .val (.int .i64 n) ∧ ∃ v, s.ρ 3 = .val v ∧ My s.H v (Xw n) ∧ Ao H.length v) ?_ ?_ ?_
 ·exact ⟨Eg, by simp [Ah, Cb], by simp [Ah, F5], _, by simp [Ah], Jk, .inr ⟨_, _, _, _, rfl, Nat.le_refl _⟩⟩
 ·rintro i s hi ⟨hH, k0, k4, v, k3, hs, ho⟩
  simp only [go_sem, Nat.reduceEqDiff, k0, k4, k3]
  cases q1 : decide (F5 n i = 0) <;> simp only [go_sem, Nat.reduceEqDiff, k0, k4, k3, q1]
  rotate_left
  ·have e1 := As q1
   have : i = Ia n := by
    by_cases e : i < Ia n
    ·exact absurd e1 (hne i e)
    ·omega
   subst this
   exact ⟨hH, v, rfl, hs, ho⟩
  have e1 := Au q1
  have hil : i < Ia n := by
   by_cases e : i < Ia n
   ·exact e
   ·have : i = Ia n := by omega
    subst this
    exact absurd h0 e1
  have hd := Zb (F5 n i)
  obtain ⟨v', H', ha, hs', ho', hf, hn, hids, hpre⟩ := hs.oneN (m := m) (Mc (F5 n i)) ho hH.length_le hw (by simp; omega)
  have hs2 : My H' v' ((List.range (i + 1)).map fun k => Mc (F5 n k)) := by rw [Sn]; exact hs'
  rw [List.range_succ] at hs2
  have hp2 := hpre H (Nat.le_refl _) hH
  simp only [go_sem, Nat.reduceEqDiff, k0, k4, k3, ne]
  cases q2 : decide ((F5 n i).tmod 10 < 0) <;> simp only [go_sem, Nat.reduceEqDiff, Nat.reduceMul, k0, k4, k3, q2]
  ·rw [if_neg (Au q2)] at hd
   simp only [go_sem, Nat.reduceEqDiff, Nat.reduceMul, k0, k4, k3, hd, ha, ne]
   exact ⟨hil, hp2, rfl, v', rfl, hs2, ho'⟩
  ·rw [if_pos (As q2)] at hd
   simp only [go_sem, Nat.reduceEqDiff, Nat.reduceMul, k0, k4, k3, hd, ha, ne]
   exact ⟨hil, hp2, rfl, v', rfl, hs2, ho'⟩
 ·rintro s ⟨hH, k0, v, k3, hs, ho⟩
  simp only [go_sem, Nat.reduceEqDiff, Nat.reduceMul, k0, k3]
  generalize hL : (Xw n) ++ (if n < 0 then [45] else []) = L
  have hLr : L.reverse = Rd n := by
   rw [← hL, e1, List.reverse_append]
   congr 1
   split <;> rfl
  have hKp : 0 < Ia n := by
   cases hc : Ia n with
   | zero => rw [hc] at h0; exact absurd h0 hn0
   | succ k => omega
  have hLl : 0 < L.length ∧ L.length ≤ 21 := by
   rw [← hL, List.length_append, Nr]
   split <;> simp <;> omega
  have hLb : ∀ x ∈ L, x < 256 := fun x hx => by
   rw [← hL, List.mem_append] at hx
   rcases hx with hx | hx
   ·have := Zl x hx; omega
   ·split at hx
    ·simp only [List.mem_singleton] at hx; omega
    ·simp at hx
  refine Bq (fun t => H <+: t.H ∧ ∃ v, t.ρ 3 = .val v ∧ My t.H v L ∧ Ao H.length v) (fun q1 => ?_) (fun q1 => ?_) fun t ⟨tH, w, t3, ts, to⟩ => ?_
  ·obtain ⟨v', H', ha, hs', ho', hf, hn, hids, hpre⟩ := hs.oneN (m := m) 45 ho hH.length_le hw (by rw [Nr]; omega)
   rw [if_pos (As q1)] at hL
   rw [hL] at hs'
   have h45 : ((45 : Nat) : Int) = 45 := rfl
   rw [h45] at ha
   simp only [go_sem, Nat.reduceEqDiff, Nat.reduceMul, k3, ha]
   exact ⟨hpre H (Nat.le_refl _) hH, v', rfl, hs', ho'⟩
  ·rw [if_neg (Au q1), List.append_nil] at hL
   rw [hL] at hs
   simp only [go_sem, Nat.reduceEqDiff, k3]
   exact ⟨hH, v, rfl, hs, ho⟩
  simp only [go_sem, Nat.reduceEqDiff, t3, ts.len, Ab ((L.length : Int) - 1) (by omega) (by omega)]
  refine Ak L.length (fun i t => H <+: t.H ∧ t.ρ 3 = .val w ∧ t.ρ 6 = .val (.int .i64 i) ∧ t.ρ 7 = .val (.int .i64 ((L.length : Int) - 1 - i)) ∧ ∃ L', My t.H w L' ∧ L'.length = L.length ∧ ∀ x, (hx : x < L.length) → L'[x]? = if x < i ∨ L.length - i ≤ x then L[L.length - 1 - x]? else L[x]?)
   (fun t => H <+: t.H ∧ t.ρ 3 = .val w ∧ My t.H w L.reverse) ?_ ?_ ?_
  ·exact ⟨tH, by simp [Ah, t3], by simp [Ah], by simp [Ah], L, ts, rfl, fun x hx => by rw [if_neg (by omega)]⟩
  ·rintro i t hi ⟨tH, k3, k6, k7, L', hs', hl', hx'⟩
   simp only [go_sem, Nat.reduceEqDiff, k3, k6, k7]
   refine Bf.intro (fun q1 => ?_) (fun q1 => ?_) <;> simp only [go_sem, Nat.reduceEqDiff, k3, k6, k7]
   rotate_left
   ·have := dY hl' (by have := Au q1; omega) hx'
    subst this
    exact ⟨tH, hs'⟩
   have hil : i + i + 1 < L.length := by have := As q1; omega
   have ej : ((L.length : Int) - 1 - (i : Int)) = ((L.length - 1 - i : Nat) : Int) := by omega
   obtain ⟨id, pi, pj, o, ho, hri, hrj, hpi, hpj, hid, hidl, hia, hja, hsw⟩ := hs'.swapN (i := i) (j := L.length - 1 - i) (by omega) (by omega)
   have hidH : H.length ≤ id := Bc to id (by rw [hid]; simp)
   have hw1 := hw id hidH
   have hset : ∀ q, (t.H.set id q)[id]? = some q := fun q => List.getElem?_set_self hidl
   have w1 := Ab ((i : Int) + 1) (by omega) (by omega)
   have w2 := Ab (((L.length - 1 - i : Nat) : Int) - 1) (by omega) (by omega)
   rw [ej] at k7
   refine Af ?_
   simp only [go_sem, Nat.reduceEqDiff, reduceCtorEq, k3, k6, k7, hia, hja, ho, hri, hrj, hpi, hpj, hw1, hset, Cq, List.set_set]
   refine ⟨by rfl, ?_⟩
   simp only [go_sem, k3, k6, k7, w1, w2]
   refine ⟨by omega, K9 tH hidH, by simp, by congr 2; omega, _, hsw, by simp [hl'], aQ hl' hil hx'⟩
  ·rintro t ⟨tH, k3, hs'⟩
   have hb := hs'.b2s (fun x hx => hLb x (List.mem_reverse.1 hx))
   simp only [go_sem, k3, hb]
   refine ⟨by unfold Bb; rw [hLr], (List.prefix_iff_eq_take.1 tH).symm⟩
section
open K
def c6 : CF := ({ b := _ } : V (α := CF) ⟨99,Q [R [z 2 false],Q [R [m 9 0,C 10 17 [9]],J 10 (Q [R [z 2 true],.ret])],R [m 11 0,C 12 18 [11],N 3 y3,s 16 3 12],R [L 13 16 3,C 14 14 [13],m 4 14],R [L 15 16 3,C 16 10 [15],N 5 y6,s 6 5 16],R [L 17 16 3,C 18 16 [17],m 6 18],Q [D [m 19 4,L 20 16 3,p [1] (C 21 13 [20]),p [0,2,1] (b 22 .neq 19 21),p [3,0,2,1] (m 23 22),p [4,3,0,2,1] (H 23 (L 24 6 5)),p [4,3,0,2,1] (H 23 (L 25 16 3)),p [6,4,3,0,2,1] (H 23 (C 26 8 [25])),p [5,4,3,0,2,1,7,6] (H 23 (k 27 (.aeq true [0,0,0,0,0,0] (.t 24) (.t 26)))),p [4,3,0,2,1,8,5,7,6] (o 28 23 27),p [9,4,3,0,2,1,8,5,7,6] (m 29 28),p [10,9,4,3,0,2,1,8,5,7,6] (H 29 (m 30 6)),p [10,9,4,3,0,2,1,8,5,7,6] (H 29 (L 31 16 3)),p [12,10,9,4,3,0,2,1,8,5,7,6] (H 29 (C 32 15 [31])),p [11,10,9,4,3,0,2,1,8,5,7,6,13,12] (H 29 (b 33 .neq 30 32)),p [10,9,4,3,0,2,1,8,5,7,6,14,11,13,12] (o 34 29 33)],J 34 (Q [R [z 2 false],.ret])],Q [R [L 35 16 3,C 36 19 [35],u 37 36],J 37 (Q [R [m 38 4,k 39 (.bin .eql (.t 38) (.c (.string ⟨#[]⟩))),m 40 39,G 40 (m 41 6),G 40 (B 42 .eql 41 (-1)),a 43 40 42,m 2 43],.ret])],R [j 7 0],Q [R [j 8 0],F 0 (Q [Q [R [m 44 8,m 45 4,k 46 (.lenT (.t 45)),b 47 .lss 44 46],U 47 (.exit 0)],.block 1 (Q [R [m 50 4,m 51 8,k 52 (.idx (.t 50) (.t 51)),k 53 (.bin .eql (.t 52) (.c (.int .u8 10)))],J 53 (R [m 54 7,B 55 .add 54 1,m 7 55])]),R [m 48 8,B 49 .add 48 1,m 8 49]])],R [m 56 7,f 57 13 3,l 58 57,h 59 58,f 60 14 3,l 61 60,h 62 61,b 63 .add 59 62,b 64 .eql 56 63,m 65 64,G 65 (f 66 0 5),G 65 (l 67 66),G 65 (f 68 1 5),G 65 (l 69 68),G 65 (b 70 .add 67 69),G 65 (f 71 2 5),G 65 (l 72 71),G 65 (b 73 .add 70 72),G 65 (f 74 3 5),G 65 (l 75 74),G 65 (b 76 .add 73 75),G 65 (f 77 13 3),G 65 (l 78 77),G 65 (h 79 78),G 65 (b 80 .leq 76 79),a 81 65 80,m 82 81,G 82 (f 83 4 5),G 82 (l 84 83),G 82 (f 85 14 3),G 82 (l 86 85),G 82 (h 87 86),G 82 (b 88 .eql 84 87),a 89 82 88,m 90 89,G 90 (m 91 6),G 90 (B 92 .eql 91 (-1)),G 90 (f 93 14 3),G 90 (l 94 93),G 90 (h 95 94),G 90 (B 96 .eql 95 0),G 90 (k 97 (.beq false (.t 92) (.t 96))),a 98 90 97,m 2 98],.ret],[.t 2]⟩).b
theorem k6 : EE.fns 6 = some c6 := by kernel_rfl
def c17 : CF := ({ b := _ } : V (α := CF) ⟨6,Q [R [z 2 false],R [m 3 0,h 4 3,B 5 .gtr 4 1048576,m 2 5],.ret],[.t 2]⟩).b
theorem Kn : EE.fns 17 = some c17 := by kernel_rfl
def uS : CF := ({ b := _ } : V (α := CF) ⟨10,Q [R [N 2 y3],R [m 4 0,C 5 52 [4],m 3 5],R [m 6 3,m 7 0,C 8 54 [7],C 9 53 [6,8],s 16 2 9],.ret],[.cell 2 16 true]⟩).b
theorem cS : EE.fns 18 = some uS := by kernel_rfl
def tV : CF := ({ b := _ } : V (α := CF) ⟨32,Q [R [c 2 (.pointer .none)],R [m 5 0,h 6 5,k 7 (.bin .add (i 10101) (.t 6)),m 3 7],Q [R [j 4 0],F 0 (Q [Q [R [m 8 4,m 9 0,h 10 9,b 11 .lss 8 10,m 12 11,G 12 (m 13 4),G 12 (B 14 .lss 13 4000),a 15 12 14],U 15 (.exit 0)],.block 1 (R [m 18 3,B 19 .mul 18 131,m 20 0,m 21 4,A 22 1 20 21,l 23 22,k 24 (.toInt .i64 (.t 23)),b 25 .add 19 24,B 26 .add 25 7,B 27 .and 26 1073741823,m 3 27]),R [m 16 4,B 17 .add 16 1,m 4 17]])],R [m 28 0,m 29 3,k 30 (.build [.slice .none 0 0,.int .i64 0,.int .i64 0] [(0,(1,.t 28)),(2,(1,.t 29))]),k 31 (.boxO (.t 30)),m 2 31],.ret],[.t 2]⟩).b
theorem k52 : EE.fns 52 = some tV := by kernel_rfl
def wV : CF := ({ b := _ } : V (α := CF) ⟨103,Q [R [N 4 y3],R [m 6 0,m 7 1,C 8 91 [6,7],N 5 y3,s 16 5 8],Q [R [m 9 0,E 10 92 [.t 9,i 10],u 11 10,m 12 11,H 12 (f 13 10 5),H 12 (l 14 13),H 12 (h 15 14),H 12 (B 16 .eql 15 0),o 17 12 16],J 17 (Q [R [L 18 16 5,s 16 4 18],.ret])],Q [R [m 19 0,E 20 93 [.t 19,i 8]],.block 0 (Q [R [B 36 .eql 20 0,m 35 36],W 35 (R [m 37 0,k 38 (.mkO 3 1 y0 [(0,i (-1)),(1,i 100000),(2,i 100001)]),C 39 94 [37,38],f 40 5 5,s 1 40 39]) (Q [R [B 42 .eql 20 1,m 41 42],W 41 (R [m 43 0,k 44 (.mkO 4 1 y0 [(0,i 0),(1,i 100),(2,i 1000000),(3,i 1000001)]),C 45 94 [43,44],f 46 6 5,s 1 46 45]) (Q [R [B 48 .eql 20 2,m 47 48],W 47 (D [f 49 7 5,p [0] (l 50 49),m 51 0,p [2] (C 52 95 [51]),p [3,2] (k 53 (.mkV 1 1 y4 [(0,.t 52)])),p [1,0,4,3,2] (k 54 (.app 1 16 (.t 50) (.t 53))),p [0,1,2,3,4,5] (f 55 7 5),p [6,0,1,2,3,4,5] (s 1 55 54)]) (Q [R [B 57 .eql 20 3,m 56 57],W 56 (D [f 58 10 5,p [0] (l 59 58),m 60 0,p [2] (E 61 92 [.t 60,i 2]),m 62 0,p [4,3,2] (E 63 93 [.t 62,i 3]),m 64 0,p [6,5,4,3,2] (E 65 93 [.t 64,i 8]),p [7,6,5,4,3,2] (B 66 .sub 65 1),p [3,2,5,4,8,7,6] (k 67 (.build y12 [(0,(1,.t 61)),(1,(1,i 1)),(2,(1,.t 63)),(3,(1,.t 66))])),p [1,0,2,3,4,5,6,7,8,9] (k 68 (.iadr 4 (.t 59) (i 0))),p [10,1,0,2,3,4,5,6,7,8,9] (s 4 68 67)]) (Q [R [B 70 .eql 20 4,m 69 70],W 69 (D [f 71 11 5,p [0] (l 72 71),m 73 0,p [2] (C 74 96 [73]),p [3,2] (k 75 (.mkV 1 8 y9 [(0,.t 74)])),p [1,0,4,3,2] (k 76 (.app 8 72 (.t 72) (.t 75))),p [0,1,2,3,4,5] (f 77 11 5),p [6,0,1,2,3,4,5] (s 1 77 76)]) (Q [R [B 79 .eql 20 5,m 78 79],W 78 (D [f 80 15 5,p [0] (l 81 80),m 82 0,p [2] (E 83 93 [.t 82,i 30]),p [3,2] (k 84 (.mkV 1 1 y0 [(0,.t 83)])),p [1,0,4,3,2] (k 85 (.app 1 8 (.t 81) (.t 84))),p [0,1,2,3,4,5] (f 86 15 5),p [6,0,1,2,3,4,5] (s 1 86 85)]) (Q [R [B 88 .eql 20 6,m 87 88],W 87 (Q [R [f 89 14 5,l 90 89,h 91 90,B 92 .gtr 91 0],J 92 (D [f 93 14 5,p [0] (l 94 93),f 95 14 5,p [2] (l 96 95),p [3,2] (k 97 (.iadr 15 (.t 96) (i 0))),p [4,3,2] (L 98 15 97),p [5,4,3,2] (k 99 (.mkV 1 15 y7 [(0,.t 98)])),p [1,0,6,5,4,3,2] (k 100 (.app 15 160 (.t 94) (.t 99))),p [0,1,2,3,4,5,6,7] (f 101 14 5),p [8,0,1,2,3,4,5,6,7] (s 1 101 100)])]) (Q [R [f 21 13 5,l 22 21,h 23 22,B 24 .gtr 23 0],J 24 (D [f 25 13 5,p [0] (l 26 25),f 27 13 5,p [2] (l 28 27),p [3,2] (k 29 (.iadr 11 (.t 28) (i 0))),p [4,3,2] (f 30 5 29),p [5,4,3,2] (l 31 30),p [6,5,4,3,2] (B 32 .add 31 1),p [1,0,2,3,4,5,6,7] (k 33 (.iadr 11 (.t 26) (i 0))),p [8,1,0,2,3,4,5,6,7] (f 34 5 33),p [9,8,1,0,2,3,4,5,6,7] (s 1 34 32)])])])])])])])])])],R [L 102 16 5,s 16 4 102],.ret],[.cell 4 16 true]⟩).b
theorem k53 : EE.fns 53 = some wV := by kernel_rfl
def xK : CF := ({ b := _ } : V (α := CF) ⟨11,Q [R [j 2 0],R [m 4 0,h 5 4,B 6 .quo 5 8,k 7 (.bin .add (i 8) (.t 6)),m 3 7],Q [R [m 8 3,B 9 .gtr 8 90],J 9 (Q [R [j 2 90],.ret])],R [m 10 3,m 2 10],.ret],[.t 2]⟩).b
theorem k54 : EE.fns 54 = some xK := by kernel_rfl
def c91 : CF := ({ b := _ } : V (α := CF) ⟨20,Q [R [N 4 y3],R [m 8 0,C 9 130 [8],N 5 y14,s 5 5 9],D [L 11 5 5,m 12 0,L 13 5 5,m 14 1,p [1,2,3] (C 15 132 [12,13,14]),p [0,4,1,2,3] (C 16 131 [11,15]),p [5,0,4,1,2,3] (m 10 16),p [6,5,0,4,1,2,3] (e 17 10 0),p [6,5,0,4,1,2,3] (e 18 10 1),N 6 y3,p [9,7,6,5,0,4,1,2,3] (s 16 6 17),p [8,6,5,0,4,1,2,3,10,9,7] (m 7 18)],R [L 19 16 6,s 16 4 19],.ret],[.cell 4 16 true]⟩).b
theorem k91 : EE.fns 91 = some c91 := by kernel_rfl
def c92 : CF := ({ b := _ } : V (α := CF) ⟨9,Q [R [z 4 false],R [m 5 0,m 6 1,C 7 93 [5,6],B 8 .eql 7 0,m 4 8],.ret],[.t 4]⟩).b
theorem k92 : EE.fns 92 = some c92 := by kernel_rfl
def c93 : CF := ({ b := _ } : V (α := CF) ⟨37,Q [R [j 4 0],Q [R [m 9 1,B 10 .leq 9 0],J 10 (Q [R [j 4 0],.ret])],Q [R [m 11 1,B 12 .leq 11 256],J 12 (Q [R [m 13 0,C 14 133 [13],m 15 1,b 16 .rem 14 15,m 4 16],.ret])],R [m 17 0,C 18 133 [17],m 5 18],R [m 19 0,C 20 133 [19],m 6 20],R [m 21 0,C 22 133 [21],m 7 22],R [m 23 0,C 24 133 [23],m 8 24],R [m 25 5,B 26 .mul 25 16777216,m 27 6,B 28 .mul 27 65536,b 29 .add 26 28,m 30 7,B 31 .mul 30 256,b 32 .add 29 31,m 33 8,b 34 .add 32 33,m 35 1,b 36 .rem 34 35,m 4 36],.ret],[.t 4]⟩).b
theorem k93 : EE.fns 93 = some c93 := by kernel_rfl
def tF : CF := ({ b := _ } : V (α := CF) ⟨12,Q [R [j 4 0],R [m 5 1,m 6 0,m 7 1,h 8 7,C 9 93 [6,8],A 10 1 5 9,l 11 10,m 4 11],.ret],[.t 4]⟩).b
theorem k94 : EE.fns 94 = some tF := by kernel_rfl
def sM : CF := ({ b := _ } : V (α := CF) ⟨24,Q [R [c 2 (.string ⟨#[]⟩)],R [m 5 0,m 6 0,E 7 93 [.t 6,i 5],k 8 (.bin .add (i 1) (.t 7)),C 9 134 [5,8],m 3 9],Q [R [m 10 0,E 11 92 [.t 10,i 4]],J 11 (Q [R [m 12 0,m 13 3,C 14 135 [12,13],m 2 14],.ret])],Q [R [m 15 0,E 16 92 [.t 15,i 30]],J 16 (Q [R [j 4 0],F 0 (Q [Q [R [m 17 4,B 18 .lss 17 9],U 18 (.exit 0)],.block 1 (R [m 21 3,k 22 (.bin .add (.c (.string ⟨#[115,1]⟩)) (.t 21)),m 3 22]),R [m 19 4,B 20 .add 19 1,m 4 20]])])],R [m 23 3,m 2 23],.ret],[.t 2]⟩).b
theorem k95 : EE.fns 95 = some sM := by kernel_rfl
def wA : CF := ({ b := _ } : V (α := CF) ⟨21,Q [R [N 2 y9],R [m 4 0,C 5 136 [4],N 3 y5,s 8 3 5],D [m 6 0,p [0] (E 7 93 [.t 6,i 6]),f 8 0 3,p [2] (l 9 8),f 10 1 3,p [4] (l 11 10),f 12 2 3,p [6] (l 13 12),f 14 3 3,p [8] (L 15 3 14),m 16 0,L 17 8 3,p [11,1,0] (E 18 138 [.t 17,i 11]),p [10,12,11,1,0] (C 19 137 [16,18]),p [1,0,3,2,5,4,7,6,9,8,13,10,12,11] (k 20 (.build y9 [(0,(1,.t 7)),(1,(1,.t 9)),(2,(1,.t 11)),(3,(1,.t 13)),(4,(3,.t 15)),(7,(1,.t 19))])),p [14,1,0,3,2,5,4,7,6,9,8,13,10,12,11] (s 8 2 20)],.ret],[.cell 2 8 true]⟩).b
theorem k96 : EE.fns 96 = some wA := by kernel_rfl
def nD : CF := ({ b := _ } : V (α := CF) ⟨101,Q [R [N 2 y14],R [m 10 0,k 11 (.mkO 5 1 y0 [(0,i 0),(1,i 2),(2,i 5),(3,i 5),(4,i 20)]),C 12 94 [10,11],k 13 (.build y14 [(4,(1,.t 12))]),N 3 y14,s 5 3 13],Q [R [j 4 0],F 0 (Q [Q [R [m 14 4,B 15 .lss 14 3],U 15 (.exit 0)],.block 1 (D [f 18 0 3,p [0] (l 19 18),m 20 0,p [2] (E 21 93 [.t 20,i 3]),p [3,2] (k 22 (.mkV 1 1 y0 [(0,.t 21)])),p [1,0,4,3,2] (k 23 (.app 1 8 (.t 19) (.t 22))),p [0,1,2,3,4,5] (f 24 0 3),p [6,0,1,2,3,4,5] (s 1 24 23)]),R [m 16 4,B 17 .add 16 1,m 4 17]])],Q [R [j 5 0],F 2 (Q [Q [R [m 25 5,B 26 .lss 25 3],U 26 (.exit 2)],.block 3 (D [f 29 1 3,p [0] (l 30 29),m 31 0,p [2] (E 32 93 [.t 31,i 3]),p [3,2] (k 33 (.mkV 1 1 y0 [(0,.t 32)])),p [1,0,4,3,2] (k 34 (.app 1 8 (.t 30) (.t 33))),p [0,1,2,3,4,5] (f 35 1 3),p [6,0,1,2,3,4,5] (s 1 35 34)]),R [m 27 5,B 28 .add 27 1,m 5 28]])],Q [R [j 6 0],F 4 (Q [Q [R [m 36 6,B 37 .lss 36 3],U 37 (.exit 4)],.block 5 (Q [R [j 7 0],F 6 (Q [Q [R [m 40 7,B 41 .lss 40 3],U 41 (.exit 6)],.block 7 (Q [R [m 44 6,m 45 7,b 46 .neq 44 45,m 47 46,G 47 (m 48 0),G 47 (E 49 92 [.t 48,i 3]),G 47 (u 50 49),a 51 47 50],J 51 (R [f 52 2 3,l 53 52,m 54 6,m 55 7,k 56 (.build y11 [(0,(1,.t 54)),(1,(1,.t 55))]),k 57 (.mkV 1 2 y11 [(0,.t 56)]),k 58 (.app 2 16 (.t 53) (.t 57)),f 59 2 3,s 1 59 58])]),R [m 42 7,B 43 .add 42 1,m 7 43]])]),R [m 38 6,B 39 .add 38 1,m 6 39]])],Q [R [j 8 0],F 8 (Q [Q [R [m 60 8,B 61 .lss 60 3],U 61 (.exit 8)],.block 9 (Q [R [j 9 0],F 10 (Q [Q [R [m 64 9,B 65 .lss 64 3],U 65 (.exit 10)],.block 11 (Q [R [m 68 8,m 69 9,b 70 .neq 68 69,m 71 70,G 71 (m 72 0),G 71 (E 73 92 [.t 72,i 3]),G 71 (u 74 73),a 75 71 74],J 75 (R [f 76 3 3,l 77 76,m 78 8,m 79 9,k 80 (.build y11 [(0,(1,.t 78)),(1,(1,.t 79))]),k 81 (.mkV 1 2 y11 [(0,.t 80)]),k 82 (.app 2 16 (.t 77) (.t 81)),f 83 3 3,s 1 83 82])]),R [m 66 9,B 67 .add 66 1,m 9 67]])]),R [m 62 8,B 63 .add 62 1,m 8 63]])],Q [R [m 84 0,E 85 92 [.t 84,i 3]],J 85 (D [f 86 0 3,p [0] (l 87 86),p [1,0] (k 88 (.iadr 1 (.t 87) (i 0))),p [2,1,0] (l 89 88),f 90 0 3,p [4] (l 91 90),p [5,4] (k 92 (.iadr 1 (.t 91) (i 0))),p [6,5,4] (l 93 92),f 94 1 3,p [8] (l 95 94),p [9,8] (k 96 (.iadr 1 (.t 95) (i 2))),p [10,9,8] (l 97 96),p [3,2,1,0,7,6,5,4,11,10,9,8] (k 98 (.mkO 3 1 y0 [(0,.t 89),(1,.t 93),(2,.t 97)])),p [0,1,2,3,4,5,6,7,8,9,10,11,12] (f 99 1 3),p [13,0,1,2,3,4,5,6,7,8,9,10,11,12] (s 1 99 98)])],R [L 100 5 3,s 5 2 100],.ret],[.cell 2 5 true]⟩).b
theorem Aay : EE.fns 130 = some nD := by kernel_rfl
def hS : CF := ({ b := _ } : V (α := CF) ⟨49,Q [R [M 2 0,N 4 y3,c 5 (.slice .none 0 0)],R [k 12 (.mkO 0 1 y0 []),m 6 12],R [L 14 5 2,C 15 145 [14],m 13 15,e 16 13 0,e 17 13 1,N 7 y3,s 16 7 16,m 8 17],Q [R [m 18 8,u 19 18,m 20 19,H 20 (m 21 1),H 20 (h 22 21),H 20 (B 23 .gtr 22 120),o 24 20 23],J 24 (Q [R [k 25 (.build y3 []),m 26 6,s 16 4 25,m 5 26],.ret])],Q [R [j 9 0],F 0 (Q [Q [R [m 27 9,m 28 1,h 29 28,b 30 .lss 27 29],U 30 (.exit 0)],.block 1 (Q [D [L 34 16 7,m 35 1,m 36 9,p [1,2] (A 37 9 35 36),p [3,1,2] (L 38 9 37),p [0,4,3,1,2] (C 39 146 [34,38]),p [5,0,4,3,1,2] (m 33 39),p [6,5,0,4,3,1,2] (e 40 33 0),p [6,5,0,4,3,1,2] (e 41 33 1),N 10 y3,p [9,7,6,5,0,4,3,1,2] (s 16 10 40),p [8,6,5,0,4,3,1,2,10,9,7] (m 11 41)],R [L 42 16 10,s 16 7 42],R [m 43 6,m 44 11,k 45 (.mkV 1 1 y0 [(0,.t 44)]),k 46 (.app 1 8 (.t 43) (.t 45)),m 6 46]]),R [m 31 9,B 32 .add 31 1,m 9 32]])],R [L 47 16 7,m 48 6,s 16 4 47,m 5 48],.ret],[.cell 4 16 true,.t 5]⟩).b
theorem yL : EE.fns 131 = some hS := by kernel_rfl
def lW : CF := ({ b := _ } : V (α := CF) ⟨122,Q [R [M 4 1,c 6 (.slice .none 0 0)],R [L 16 5 4,C 17 145 [16],m 15 17,e 18 15 0,e 19 15 1,N 7 y3,s 16 7 18,m 8 19],R [k 20 (.mkO 0 9 y2 []),m 9 20],Q [R [m 21 8,u 22 21],J 22 (Q [R [m 23 9,m 6 23],.ret])],Q [R [m 24 0,E 25 92 [.t 24,i 2]],J 25 (Q [D [L 26 5 4,m 27 0,p [1] (E 28 93 [.t 27,i 6]),m 29 0,p [3,2,1] (E 30 93 [.t 29,i 3]),k 31 (.build y1 [(0,(1,i 7)),(1,(1,i 255)),(2,(1,i 60))]),m 32 0,p [6,4,3,2,1] (E 33 93 [.t 32,i 8]),p [0,2,1,4,3,5,7,6] (C 34 147 [26,28,30,31,33]),p [8,0,2,1,4,3,5,7,6] (m 9 34)],Q [R [j 10 0],F 0 (Q [Q [R [m 35 10,m 36 9,h 37 36,b 38 .lss 35 37],U 38 (.exit 0)],.block 1 (D [L 42 16 7,m 43 9,m 44 10,p [1,2] (A 45 9 43 44),p [3,1,2] (L 46 9 45),p [0,4,3,1,2] (C 47 146 [42,46]),p [5,0,4,3,1,2] (m 41 47),p [6,5,0,4,3,1,2] (e 48 41 0),p [6,5,0,4,3,1,2] (e 49 41 1),p [7,6,5,0,4,3,1,2] (s 16 7 48)]),R [m 39 10,B 40 .add 39 1,m 10 40]])],R [m 50 0,E 51 92 [.t 50,i 2],m 52 51,G 52 (m 53 9),G 52 (h 54 53),G 52 (B 55 .gtr 54 3),a 56 52 55],J 56 (Q [R [m 57 0,E 58 93 [.t 57,i 3],k 59 (.bin .add (i 3) (.t 58)),m 11 59],D [m 60 11,p [0] (k 61 (.build y2 [(0,(1,i 2)),(1,(1,.t 60))])),L 62 5 4,m 63 11,p [2,3] (C 64 148 [62,63]),f 65 7 7,p [5] (l 66 65),p [6,5] (h 67 66),p [4,2,3,7,6,5] (k 68 (.build y2 [(0,(1,i 4)),(1,(1,.t 64)),(2,(1,.t 67))])),m 69 11,f 70 7 7,p [10] (l 71 70),p [11,10] (h 72 71),p [12,11,10] (B 73 .add 72 1),p [9,13,12,11,10] (k 74 (.build y2 [(0,(1,i 5)),(1,(1,.t 69)),(2,(1,.t 73))])),p [1,0,8,4,2,3,7,6,5,14,9,13,12,11,10] (k 75 (.mkO 3 9 y2 [(0,.t 61),(1,.t 68),(2,.t 74)])),p [15,1,0,8,4,2,3,7,6,5,14,9,13,12,11,10] (m 12 75)],R [j 13 0],F 2 (Q [Q [R [m 76 13,m 77 12,h 78 77,b 79 .lss 76 78],U 79 (.exit 2)],.block 3 (Q [R [m 82 9,m 83 12,m 84 13,A 85 9 83 84,L 86 9 85,k 87 (.mkV 1 9 y2 [(0,.t 86)]),k 88 (.app 9 80 (.t 82) (.t 87)),m 9 88],D [L 90 16 7,m 91 12,m 92 13,p [1,2] (A 93 9 91 92),p [3,1,2] (L 94 9 93),p [0,4,3,1,2] (C 95 146 [90,94]),p [5,0,4,3,1,2] (m 89 95),p [6,5,0,4,3,1,2] (e 96 89 0),p [6,5,0,4,3,1,2] (e 97 89 1),p [7,6,5,0,4,3,1,2] (s 16 7 96)]]),R [m 80 13,B 81 .add 80 1,m 13 81]])])])],F 4 (Q [Q [R [m 98 9,h 99 98,m 100 2,b 101 .lss 99 100],U 101 (.exit 4)],.block 5 (Q [R [m 102 0,L 103 16 7,C 104 149 [102,103],N 14 y2,s 9 14 104],Q [R [m 105 0,E 106 92 [.t 105,i 150]],J 106 (R [m 107 0,k 108 (.mkO 3 1 y0 [(0,i (-1)),(1,i 0),(2,i 11)]),C 109 94 [107,108],f 110 0 14,s 1 110 109])],R [m 111 9,L 112 9 14,k 113 (.mkV 1 9 y2 [(0,.t 112)]),k 114 (.app 9 80 (.t 111) (.t 113)),m 9 114],R [L 116 16 7,L 117 9 14,C 118 146 [116,117],m 115 118,e 119 115 0,e 120 115 1,s 16 7 119]])]),R [m 121 9,m 6 121],.ret],[.t 6]⟩).b
theorem rY : EE.fns 132 = some lW := by kernel_rfl
def jX : CF := ({ b := _ } : V (α := CF) ⟨58,Q [R [j 2 0],R [m 4 0,m 5 0,k 6 (.nilc (.t 5)),f 7 2 6,l 8 7,B 9 .mul 8 6364136223846793005,B 10 .add 9 1442695040888963407,k 11 (.nilc (.t 4)),f 12 2 11,s 1 12 10],D [m 13 0,p [0] (k 14 (.nilc (.t 13))),p [1,0] (f 15 2 14),p [2,1,0] (l 16 15),p [3,2,1,0] (k 17 (.bin .shr (.t 16) (.c (.int .u64 33)))),m 18 0,p [5] (k 19 (.nilc (.t 18))),p [6,5] (f 20 2 19),p [7,6,5] (l 21 20),p [8,7,6,5] (k 22 (.bin .shr (.t 21) (.c (.int .u64 45)))),p [4,3,2,1,0,9,8,7,6,5] (b 23 .xor 17 22),p [10,4,3,2,1,0,9,8,7,6,5] (B 24 .and 23 255),p [11,10,4,3,2,1,0,9,8,7,6,5] (m 3 24)],Q [D [m 25 0,p [0] (k 26 (.nilc (.t 25))),p [1,0] (f 27 1 26),p [2,1,0] (l 28 27),m 29 0,p [4] (k 30 (.nilc (.t 29))),p [5,4] (f 31 0 30),p [6,5,4] (l 32 31),p [7,6,5,4] (h 33 32),p [3,2,1,0,8,7,6,5,4] (b 34 .lss 28 33)],J 34 (Q [D [m 35 3,m 36 0,p [1] (k 37 (.nilc (.t 36))),p [2,1] (f 38 0 37),p [3,2,1] (l 39 38),m 40 0,p [5] (k 41 (.nilc (.t 40))),p [6,5] (f 42 1 41),p [7,6,5] (l 43 42),p [4,3,2,1,8,7,6,5] (A 44 1 39 43),p [9,4,3,2,1,8,7,6,5] (l 45 44),p [10,9,4,3,2,1,8,7,6,5] (k 46 (.toInt .i64 (.t 45))),p [0,11,10,9,4,3,2,1,8,7,6,5] (b 47 .add 35 46),p [12,0,11,10,9,4,3,2,1,8,7,6,5] (B 48 .and 47 255),p [13,12,0,11,10,9,4,3,2,1,8,7,6,5] (m 3 48)],R [m 49 0,m 50 0,k 51 (.nilc (.t 50)),f 52 1 51,l 53 52,B 54 .add 53 1,k 55 (.nilc (.t 49)),f 56 1 55,s 1 56 54]])],R [m 57 3,m 2 57],.ret],[.t 2]⟩).b
theorem yD : EE.fns 133 = some jX := by kernel_rfl
def jP : CF := ({ b := _ } : V (α := CF) ⟨56,Q [R [c 4 (.string ⟨#[]⟩)],R [m 8 0,E 9 93 [.t 8,i 5],m 5 9],Q [R [m 10 1,B 11 .lss 10 2,m 12 11,G 12 (m 13 5),G 12 (B 14 .gtr 13 1),a 15 12 14],J 15 (R [m 16 0,E 17 93 [.t 16,i 2],m 5 17])],Q [R [m 18 5],.block 0 (Q [R [B 20 .eql 18 0,m 19 20],W 19 (Q [R [m 21 0,E 22 151 [.t 21,i 5],C 23 150 [22],m 4 23],.ret]) (Q [R [B 25 .eql 18 1,m 24 25],W 24 (Q [R [m 26 0,E 27 93 [.t 26,i 6],k 28 (.bin .add (i 1) (.t 27)),C 29 152 [28],m 4 29],.ret]) (Q [R [B 31 .eql 18 2,m 30 31],J 30 (Q [R [m 32 0,E 33 93 [.t 32,i 6],k 34 (.bin .add (i 1) (.t 33)),m 35 0,m 36 1,B 37 .sub 36 1,C 38 134 [35,37],C 39 153 [34,38],m 4 39],.ret])])])])],R [k 40 (.mkO 0 1 y4 []),m 6 40],Q [R [m 41 0,E 42 93 [.t 41,i 4],m 7 42],F 1 (Q [Q [R [m 43 7,B 44 .gtr 43 0],U 44 (.exit 1)],.block 2 (R [m 47 6,m 48 0,m 49 1,B 50 .sub 49 1,C 51 134 [48,50],k 52 (.mkV 1 1 y4 [(0,.t 51)]),k 53 (.app 1 16 (.t 47) (.t 52)),m 6 53]),R [m 45 7,B 46 .sub 45 1,m 7 46]])],R [m 54 6,C 55 154 [54],m 4 55],.ret],[.t 4]⟩).b
theorem Aag : EE.fns 134 = some jP := by kernel_rfl
def iD : CF := ({ b := _ } : V (α := CF) ⟨67,Q [R [c 4 (.string ⟨#[]⟩)],Q [R [m 6 1,k 7 (.lenT (.t 6)),B 8 .eql 7 0],J 8 (Q [R [m 9 0,E 10 151 [.t 9,i 3],m 4 10],.ret])],R [m 11 0,m 12 1,k 13 (.lenT (.t 12)),C 14 93 [11,13],m 5 14],Q [R [m 15 0,E 16 93 [.t 15,i 4]],.block 0 (Q [R [B 18 .eql 16 0,m 17 18],W 17 (Q [D [m 19 1,m 20 5,p [0,1] (k 21 (.slcS (.t 19) .none (.some (.t 20)))),m 22 1,m 23 5,p [4] (B 24 .add 23 1),p [3,5,4] (k 25 (.slcS (.t 22) (.some (.t 24)) .none)),p [2,0,1,6,3,5,4] (b 26 .add 21 25),p [7,2,0,1,6,3,5,4] (m 4 26)],.ret]) (Q [R [B 28 .eql 16 1,m 27 28],W 27 (Q [D [m 29 1,m 30 5,p [0,1] (k 31 (.slcS (.t 29) .none (.some (.t 30)))),m 32 0,p [3] (C 33 133 [32]),p [4,3] (k 34 (.toInt .u8 (.t 33))),p [5,4,3] (k 35 (.mkO 1 1 y10 [(0,.t 34)])),p [6,5,4,3] (k 36 (.b2s (.t 35))),p [2,0,1,7,6,5,4,3] (b 37 .add 31 36),m 38 1,m 39 5,p [9,10] (k 40 (.slcS (.t 38) (.some (.t 39)) .none)),p [8,2,0,1,7,6,5,4,3,11,9,10] (b 41 .add 37 40),p [12,8,2,0,1,7,6,5,4,3,11,9,10] (m 4 41)],.ret]) (Q [R [B 43 .eql 16 2,m 42 43],J 42 (Q [R [m 44 1,m 45 5,k 46 (.slcS (.t 44) .none (.some (.t 45))),m 4 46],.ret])])])])],D [m 47 1,m 48 5,p [0,1] (k 49 (.slcS (.t 47) .none (.some (.t 48)))),m 50 1,m 51 5,p [3,4] (k 52 (.idx (.t 50) (.t 51))),p [5,3,4] (k 53 (.toInt .i64 (.t 52))),m 54 0,p [7] (E 55 93 [.t 54,i 255]),p [8,7] (k 56 (.bin .add (i 1) (.t 55))),p [6,5,3,4,9,8,7] (b 57 .xor 53 56),p [10,6,5,3,4,9,8,7] (k 58 (.toInt .u8 (.t 57))),p [11,10,6,5,3,4,9,8,7] (k 59 (.mkO 1 1 y10 [(0,.t 58)])),p [12,11,10,6,5,3,4,9,8,7] (k 60 (.b2s (.t 59))),p [2,0,1,13,12,11,10,6,5,3,4,9,8,7] (b 61 .add 49 60),m 62 1,m 63 5,p [16] (B 64 .add 63 1),p [15,17,16] (k 65 (.slcS (.t 62) (.some (.t 64)) .none)),p [14,2,0,1,13,12,11,10,6,5,3,4,9,8,7,18,15,17,16] (b 66 .add 61 65),p [19,14,2,0,1,13,12,11,10,6,5,3,4,9,8,7,18,15,17,16] (m 4 66)],.ret],[.t 4]⟩).b
theorem zH : EE.fns 135 = some iD := by kernel_rfl
def lC : CF := ({ b := _ } : V (α := CF) ⟨83,Q [R [N 2 y5],R [m 6 0,E 7 93 [.t 6,i 6],m 8 0,k 9 (.mkO 6 1 y0 [(0,i 0),(1,i 1),(2,i 2),(3,i 10),(4,i 11),(5,i 12)]),C 10 94 [8,9],m 11 0,E 12 93 [.t 11,i 9],k 13 (.bin .add (i 101) (.t 12)),m 14 0,C 15 155 [14],k 16 (.build y5 [(0,(1,.t 7)),(1,(1,.t 10)),(2,(1,.t 13)),(3,(3,.t 15))]),N 3 y5,s 8 3 16],Q [R [m 17 0,E 18 93 [.t 17,i 3],m 4 18],F 0 (Q [Q [R [m 19 4,B 20 .gtr 19 0],U 20 (.exit 0)],.block 1 (D [f 23 6 3,p [0] (l 24 23),m 25 0,p [2] (E 26 93 [.t 25,i 3]),p [3,2] (k 27 (.mkV 1 1 y0 [(0,.t 26)])),p [1,0,4,3,2] (k 28 (.app 1 8 (.t 24) (.t 27))),p [0,1,2,3,4,5] (f 29 6 3),p [6,0,1,2,3,4,5] (s 1 29 28)]),R [m 21 4,B 22 .sub 21 1,m 4 22]])],Q [R [m 30 0,E 31 93 [.t 30,i 3],m 5 31],F 2 (Q [Q [R [m 32 5,B 33 .gtr 32 0],U 33 (.exit 2)],.block 3 (D [f 36 7 3,p [0] (l 37 36),m 38 0,p [2] (E 39 93 [.t 38,i 3]),p [3,2] (k 40 (.mkV 1 1 y0 [(0,.t 39)])),p [1,0,4,3,2] (k 41 (.app 1 8 (.t 37) (.t 40))),p [0,1,2,3,4,5] (f 42 7 3),p [6,0,1,2,3,4,5] (s 1 42 41)]),R [m 34 5,B 35 .sub 34 1,m 5 35]])],Q [R [m 43 0,E 44 92 [.t 43,i 10]],J 44 (Q [R [m 45 0,E 46 93 [.t 45,i 6]],.block 4 (Q [R [B 53 .eql 46 0,m 52 53],W 52 (R [m 54 0,k 55 (.mkO 2 1 y0 [(0,i (-1)),(1,i 6)]),C 56 94 [54,55],f 57 0 3,s 1 57 56]) (Q [R [B 59 .eql 46 1,m 58 59],W 58 (R [m 60 0,k 61 (.mkO 4 1 y0 [(0,i (-1)),(1,i 3),(2,i 9),(3,i 13)]),C 62 94 [60,61],f 63 1 3,s 1 63 62]) (Q [R [B 65 .eql 46 2,m 64 65],W 64 (R [m 66 0,k 67 (.mkO 3 1 y0 [(0,i 0),(1,i 1000000),(2,i 1000001)]),C 68 94 [66,67],f 69 2 3,s 1 69 68]) (Q [R [B 71 .eql 46 3,m 70 71],W 70 (R [m 72 0,C 73 156 [72],f 74 3 3,s 3 74 73]) (Q [R [B 76 .eql 46 4,m 75 76],W 75 (R [f 77 6 3,l 78 77,k 79 (.mkV 4 1 y0 [(0,i 0),(1,i 1),(2,i 2),(3,i 3)]),k 80 (.app 1 8 (.t 78) (.t 79)),f 81 6 3,s 1 81 80]) (R [f 47 7 3,l 48 47,k 49 (.mkV 3 1 y0 [(0,i 0),(1,i 1),(2,i 2)]),k 50 (.app 1 8 (.t 48) (.t 49)),f 51 7 3,s 1 51 50])])])])])])])],R [L 82 8 3,s 8 2 82],.ret],[.cell 2 8 true]⟩).b
theorem vH : EE.fns 136 = some lC := by kernel_rfl
def kC : CF := ({ b := _ } : V (α := CF) ⟨11,Q [R [c 4 (.string ⟨#[]⟩)],Q [R [m 5 0,E 6 92 [.t 5,i 4]],J 6 (Q [R [m 7 0,m 8 1,C 9 135 [7,8],m 4 9],.ret])],R [m 10 1,m 4 10],.ret],[.t 4]⟩).b
theorem sS : EE.fns 137 = some kC := by kernel_rfl
def gP : CF := ({ b := _ } : V (α := CF) ⟨30,Q [R [M 2 0,c 4 (.string ⟨#[]⟩)],Q [R [L 5 8 2,C 6 157 [5],u 7 6],J 7 (Q [R [c 4 (.string ⟨#[]⟩)],.ret])],D [m 8 1,f 9 0 2,p [1] (l 10 9),f 11 1 2,p [3] (l 12 11),p [2,1,4,3] (k 13 (.mkO 2 1 y0 [(0,.t 10),(1,.t 12)])),p [5,2,1,4,3] (C 14 158 [13]),f 15 2 2,p [7] (l 16 15),p [8,7,6,5,2,1,4,3] (C 17 152 [16]),f 18 3 2,p [10] (L 19 3 18),p [11,10,9,8,7,6,5,2,1,4,3] (C 20 159 [19]),f 21 6 2,p [13] (l 22 21),p [14,13,12,11,10,9,8,7,6,5,2,1,4,3] (C 23 158 [22]),f 24 7 2,p [16] (l 25 24),p [17,16,15,14,13,12,11,10,9,8,7,6,5,2,1,4,3] (C 26 158 [25]),p [6,5,2,1,4,3,9,8,7,12,11,10,15,14,13,18,17,16] (k 27 (.mkO 5 1 y4 [(0,.t 14),(1,.t 17),(2,.t 20),(3,.t 23),(4,.t 26)])),p [19,6,5,2,1,4,3,9,8,7,12,11,10,15,14,13,18,17,16] (C 28 154 [27]),p [0,20,19,6,5,2,1,4,3,9,8,7,12,11,10,15,14,13,18,17,16] (C 29 153 [8,28]),p [21,0,20,19,6,5,2,1,4,3,9,8,7,12,11,10,15,14,13,18,17,16] (m 4 29)],.ret],[.t 4]⟩).b
theorem zQ : EE.fns 138 = some gP := by kernel_rfl
def jB : CF := ({ b := _ } : V (α := CF) ⟨25,Q [R [M 1 0,N 2 y3,z 3 false],Q [R [L 6 5 1,C 7 55 [6],u 8 7],J 8 (Q [R [k 9 (.build y3 []),s 16 2 9,z 3 false],.ret])],D [L 10 5 1,p [0] (C 11 163 [10]),k 12 (.makeV 4 32 y12 (i 6) (i 6)),p [1,0,2] (k 13 (.buildP 12 4 y3 [(0,(5,.t 11)),(6,(1,i 101)),(10,(1,.t 12))])),N 4 y3,p [4,3,1,0,2] (s 16 4 13)],Q [R [j 5 0],F 0 (Q [Q [R [m 14 5,B 15 .lss 14 3],U 15 (.exit 0)],.block 1 (D [f 18 12 4,p [0] (l 19 18),C 20 164 [],p [2] (k 21 (.mkV 1 2 y8 [(0,.t 20)])),p [1,0,3,2] (k 22 (.app 2 32 (.t 19) (.t 21))),p [0,1,2,3,4] (f 23 12 4),p [5,0,1,2,3,4] (s 1 23 22)]),R [m 16 5,B 17 .add 16 1,m 5 17]])],R [L 24 16 4,s 16 2 24,z 3 true],.ret],[.cell 2 16 true,.t 3]⟩).b
theorem sR : EE.fns 145 = some jB := by kernel_rfl
def iX : CF := ({ b := _ } : V (α := CF) ⟨27,Q [R [M 2 0,M 3 1,N 4 y3,j 5 0],Q [R [f 8 0 3,l 9 8,E 10 48 [.t 9,i 1,i 10],u 11 10],J 11 (Q [R [L 12 16 2,s 16 4 12,j 5 1],.ret])],Q [R [L 13 16 2,L 14 9 3,C 15 165 [13,14],u 16 15],J 16 (Q [R [L 17 16 2,s 16 4 17,j 5 2],.ret])],R [L 19 16 2,L 20 9 3,C 21 166 [19,20],m 18 21,e 22 18 0,e 23 18 1,N 6 y3,s 16 6 22,m 7 23],Q [R [m 24 7],J 24 (Q [R [L 25 16 6,s 16 4 25,j 5 0],.ret])],R [L 26 16 6,s 16 4 26,j 5 3],.ret],[.cell 4 16 true,.t 5]⟩).b
theorem vB : EE.fns 146 = some iX := by kernel_rfl
def lI : CF := ({ b := _ } : V (α := CF) ⟨110,Q [R [M 5 0,M 8 3,c 10 (.slice .none 0 0)],R [k 16 (.mkO 0 9 y2 []),m 11 16],Q [R [L 17 5 5,C 18 55 [17],u 19 18,m 20 19,H 20 (m 21 1),H 20 (C 22 61 [21]),H 20 (u 23 22),o 24 20 23,m 25 24,H 25 (m 26 2),H 25 (B 27 .lss 26 0),o 28 25 27,m 29 28,H 29 (m 30 2),H 29 (B 31 .geq 30 3),o 32 29 31,m 33 32,H 33 (L 34 3 8),H 33 (C 35 101 [34]),H 33 (u 36 35),o 37 33 36,m 38 37,H 38 (m 39 4),H 38 (E 40 48 [.t 39,i 0,i 7]),H 38 (u 41 40),o 42 38 41],J 42 (Q [R [m 43 11,m 10 43],.ret])],R [L 44 5 5,m 45 1,C 46 148 [44,45],m 12 46],R [m 47 11,m 48 1,k 49 (.build y2 [(0,(1,i 2)),(1,(1,.t 48))]),m 50 12,k 51 (.build y2 [(0,(1,i 4)),(1,(1,.t 50))]),m 52 1,k 53 (.build y2 [(0,(1,i 5)),(1,(1,.t 52)),(2,(1,i 1))]),k 54 (.mkV 3 9 y2 [(0,.t 49),(1,.t 51),(2,.t 53)]),k 55 (.app 9 80 (.t 47) (.t 54)),m 11 55],R [j 13 2],R [j 14 1],Q [R [j 15 0],F 0 (Q [Q [R [m 56 15,B 57 .leq 56 3],U 57 (.exit 0)],.block 1 (Q [R [m 60 11,m 61 1,m 62 14,B 63 .sub 62 1,m 64 2,L 65 3 8,k 66 (.build y2 [(0,(1,i 3)),(1,(1,.t 61)),(2,(1,.t 63)),(3,(1,.t 64)),(5,(3,.t 65))]),m 67 12,m 68 13,k 69 (.build y2 [(0,(1,i 4)),(1,(1,.t 67)),(2,(1,.t 68))]),m 70 1,m 71 13,B 72 .add 71 1,k 73 (.build y2 [(0,(1,i 5)),(1,(1,.t 70)),(2,(1,.t 72))]),k 74 (.mkV 3 9 y2 [(0,.t 66),(1,.t 69),(2,.t 73)]),k 75 (.app 9 80 (.t 60) (.t 74)),m 11 75],R [m 76 13,B 77 .add 76 2,m 13 77],R [m 78 14,B 79 .add 78 1,m 14 79],Q [R [m 80 12,f 81 1 5,l 82 81,m 83 2,A 84 1 82 83,l 85 84,b 86 .eql 80 85],J 86 (Q [R [m 87 11,m 88 1,m 89 14,B 90 .sub 89 1,m 91 4,k 92 (.build y2 [(0,(1,i 6)),(1,(1,.t 88)),(2,(1,.t 90)),(3,(1,.t 91))]),m 93 2,m 94 13,k 95 (.build y2 [(0,(1,i 7)),(1,(1,.t 93)),(2,(1,.t 94))]),k 96 (.mkV 2 9 y2 [(0,.t 92),(1,.t 95)]),k 97 (.app 9 80 (.t 87) (.t 96)),m 10 97],.ret])],D [L 98 5 5,m 99 12,f 100 1 5,p [2] (l 101 100),m 102 2,p [3,2,4] (A 103 1 101 102),p [5,3,2,4] (l 104 103),p [0,1,6,5,3,2,4] (C 105 167 [98,99,104]),p [7,0,1,6,5,3,2,4] (m 12 105)],R [m 106 12,B 107 .lss 106 0],J 107 (Q [R [k 108 (.mkO 0 9 y2 []),m 10 108],.ret])]),R [m 58 15,B 59 .add 58 1,m 15 59]])],R [k 109 (.mkO 0 9 y2 []),m 10 109],.ret],[.t 10]⟩).b
theorem vJ : EE.fns 147 = some lI := by kernel_rfl
def iV : CF := ({ b := _ } : V (α := CF) ⟨26,Q [R [M 2 0,j 4 0],Q [R [L 5 5 2,C 6 55 [5],u 7 6,m 8 7,H 8 (m 9 1),H 8 (C 10 61 [9]),H 8 (u 11 10),o 12 8 11],J 12 (Q [R [j 4 (-1)],.ret])],Q [R [m 13 1,B 14 .lss 13 3],J 14 (Q [R [f 15 0 2,l 16 15,m 17 1,A 18 1 16 17,l 19 18,m 4 19],.ret])],R [f 20 1 2,l 21 20,m 22 1,B 23 .sub 22 3,A 24 1 21 23,l 25 24,m 4 25],.ret],[.t 4]⟩).b
theorem zS : EE.fns 148 = some iV := by kernel_rfl
def gO : CF := ({ b := _ } : V (α := CF) ⟨160,Q [R [M 3 1,N 4 y2],R [f 11 7 3,l 12 11,h 13 12,B 14 .sub 13 1,m 5 14],Q [R [m 15 5,B 16 .geq 15 0,m 17 16,G 17 (m 18 0),G 17 (E 19 92 [.t 18,i 6]),a 20 17 19],J 20 (R [m 21 0,f 22 7 3,l 23 22,h 24 23,C 25 93 [21,24],m 5 25])],R [m 26 0,k 27 (.mkO 8 1 y0 [(0,i 0),(1,i 0),(2,i 0),(3,i 1),(4,i 2),(5,i 3),(6,i 4),(7,i 5)]),C 28 94 [26,27],m 6 28],R [f 29 0 3,L 30 5 29,m 31 6,C 32 148 [30,31],m 7 32],Q [R [m 33 0,E 34 92 [.t 33,i 10]],J 34 (R [m 35 0,E 36 93 [.t 35,i 3],m 7 36])],Q [R [m 37 0,E 38 93 [.t 37,i 24]],.block 0 (Q [R [B 40 .eql 38 0,m 39 40],W 39 (Q [R [k 41 (.build y2 [(0,(1,i 1))]),s 9 4 41],.ret]) (Q [R [B 43 .eql 38 1,m 42 43],W 42 (Q [R [m 44 0,k 45 (.mkO 12 1 y0 [(0,i 1),(1,i 2),(2,i 3),(3,i 11),(4,i 12),(5,i 13),(6,i 21),(7,i 22),(8,i 23),(9,i 32),(10,i 34),(11,i 5)]),C 46 94 [44,45],k 47 (.build y2 [(0,(1,i 8)),(1,(1,.t 46))]),s 9 4 47],.ret]) (Q [R [B 49 .eql 38 2,m 48 49],W 48 (Q [R [m 50 0,L 51 16 3,C 52 168 [50,51],k 53 (.build y2 [(0,(1,i 9)),(8,(1,.t 52))]),s 9 4 53],.ret]) (Q [R [B 55 .eql 38 3,m 54 55],W 54 (Q [R [m 56 0,E 57 93 [.t 56,i 3],k 58 (.build y2 [(0,(1,i 10)),(1,(1,.t 57))]),s 9 4 58],.ret]) (Q [Q [R [B 60 .eql 38 4,m 59 60],U 59 (Q [R [B 61 .eql 38 5,m 59 61],U 59 (Q [R [B 62 .eql 38 6,m 59 62],U 59 (R [B 63 .eql 38 7,m 59 63])])])],W 59 (Q [R [m 64 0,m 65 7,m 66 7,m 67 0,E 68 93 [.t 67,i 3],k 69 (.mkO 3 1 y0 [(0,.t 65),(1,.t 66),(2,.t 68)]),C 70 94 [64,69],m 71 5,k 72 (.build y2 [(0,(1,i 4)),(1,(1,.t 70)),(2,(1,.t 71))]),s 9 4 72],.ret]) (Q [Q [R [B 74 .eql 38 8,m 73 74],U 73 (Q [R [B 75 .eql 38 9,m 73 75],U 73 (Q [R [B 76 .eql 38 10,m 73 76],U 73 (R [B 77 .eql 38 11,m 73 77])])])],W 73 (Q [Q [R [j 8 0],F 1 (Q [Q [R [m 78 8,B 79 .lss 78 6],U 79 (.exit 1)],.block 2 (Q [R [f 82 10 3,l 83 82,m 84 8,A 85 4 83 84,f 86 0 85,l 87 86,m 88 87,G 88 (m 89 0),G 88 (E 90 92 [.t 89,i 4]),G 88 (u 91 90),a 92 88 91],J 92 (R [m 93 8,m 6 93])]),R [m 80 8,B 81 .add 80 1,m 8 81]])],R [m 94 6,m 95 5,k 96 (.build y2 [(0,(1,i 5)),(1,(1,.t 94)),(2,(1,.t 95))]),s 9 4 96],.ret]) (Q [Q [R [B 98 .eql 38 12,m 97 98],U 97 (Q [R [B 99 .eql 38 13,m 97 99],U 97 (R [B 100 .eql 38 14,m 97 100])])],W 97 (Q [R [m 101 0,E 102 93 [.t 101,i 3],m 103 5,k 104 (.build y2 [(0,(1,i 7)),(1,(1,.t 102)),(2,(1,.t 103))]),s 9 4 104],.ret]) (Q [Q [R [B 106 .eql 38 15,m 105 106],U 105 (R [B 107 .eql 38 16,m 105 107])],W 105 (Q [R [m 108 6,k 109 (.build y2 [(0,(1,i 2)),(1,(1,.t 108))]),s 9 4 109],.ret]) (Q [Q [R [B 111 .eql 38 17,m 110 111],U 110 (R [B 112 .eql 38 18,m 110 112])],J 110 (Q [R [m 113 6,m 114 0,L 115 16 3,m 116 6,E 117 169 [.t 114,.t 115,.t 116,.c (.bool false)],m 118 0,E 119 93 [.t 118,i 8],k 120 (.build y2 [(0,(1,i 6)),(1,(1,.t 113)),(2,(1,.t 117)),(3,(1,.t 119))]),s 9 4 120],.ret])])])])])])])])])])],R [m 121 6,m 122 0,L 123 16 3,m 124 6,E 125 169 [.t 122,.t 123,.t 124,.c (.bool true)],m 126 0,E 127 93 [.t 126,i 3],k 128 (.build y1 [(0,(1,i 7)),(1,(1,i 255)),(2,(1,i 90))]),k 129 (.build y2 [(0,(1,i 3)),(1,(1,.t 121)),(2,(1,.t 125)),(3,(1,.t 127)),(5,(3,.t 128))]),N 9 y2,s 9 9 129],Q [R [m 130 0,E 131 92 [.t 130,i 3]],J 131 (R [m 132 0,C 133 156 [132],f 134 5 9,s 3 134 133])],Q [R [j 10 0],F 3 (Q [Q [R [m 135 10,f 136 14 3,l 137 136,h 138 137,b 139 .lss 135 138],U 139 (.exit 3)],.block 4 (Q [R [f 142 14 3,l 143 142,m 144 10,A 145 15 143 144,f 146 0 145,l 147 146,m 148 6,B 149 .sub 148 3,b 150 .eql 147 149,m 151 150,G 151 (m 152 0),G 151 (E 153 92 [.t 152,i 3]),G 151 (u 154 153),a 155 151 154],J 155 (R [m 156 10,B 157 .add 156 1,f 158 4 9,s 1 158 157])]),R [m 140 10,B 141 .add 140 1,m 10 141]])],R [L 159 9 9,s 9 4 159],.ret],[.cell 4 9 true]⟩).b
theorem zK : EE.fns 149 = some gO := by kernel_rfl
def aL : CF := ({ b := _ } : V (α := CF) ⟨13,Q [R [c 2 (.string ⟨#[]⟩)],Q [R [m 3 0,k 4 (.lenT (.t 3)),B 5 .gtr 4 40],J 5 (Q [R [c 2 (.string ⟨#[]⟩)],.ret])],R [m 6 0,k 7 (.lenT (.t 6)),C 8 160 [7],k 9 (.bin .add (.c (.string ⟨#[97]⟩)) (.t 8)),m 10 0,b 11 .add 9 10,C 12 170 [11],m 2 12],.ret],[.t 2]⟩).b
theorem pX : EE.fns 150 = some aL := by kernel_rfl
def iL : CF := ({ b := _ } : V (α := CF) ⟨38,Q [R [c 4 (.string ⟨#[]⟩)],R [k 9 (.mkO 0 1 y10 []),m 5 9],R [m 10 0,E 11 93 [.t 10,i 4],m 6 11],Q [R [m 12 0,m 13 1,B 14 .add 13 1,C 15 93 [12,14],m 7 15],F 0 (Q [Q [R [m 16 7,B 17 .gtr 16 0],U 17 (.exit 0)],.block 1 (Q [R [m 20 0,C 21 133 [20],m 8 21],Q [R [m 22 6,B 23 .eql 22 1],J 23 (R [m 24 8,B 25 .rem 24 2,m 8 25])],Q [R [m 26 6,B 27 .eql 26 2],J 27 (R [m 28 8,B 29 .rem 28 4,k 30 (.bin .add (i 97) (.t 29)),m 8 30])],R [m 31 5,m 32 8,k 33 (.toInt .u8 (.t 32)),k 34 (.mkV 1 1 y10 [(0,.t 33)]),k 35 (.app 1 1 (.t 31) (.t 34)),m 5 35]]),R [m 18 7,B 19 .sub 18 1,m 7 19]])],R [m 36 5,k 37 (.b2s (.t 36)),m 4 37],.ret],[.t 4]⟩).b
theorem vD : EE.fns 151 = some iL := by kernel_rfl
def Tu : CF := ({ b := _ } : V (α := CF) ⟨9,Q [R [c 2 (.string ⟨#[]⟩)],Q [R [m 3 0,E 4 48 [.t 3,i 1,i 1000000],u 5 4],J 5 (Q [R [c 2 (.string ⟨#[]⟩)],.ret])],R [m 6 0,C 7 160 [6],k 8 (.bin .add (.c (.string ⟨#[107]⟩)) (.t 7)),m 2 8],.ret],[.t 2]⟩).b
theorem pS : EE.fns 152 = some Tu := by kernel_rfl
def mB : CF := ({ b := _ } : V (α := CF) ⟨19,Q [R [c 4 (.string ⟨#[]⟩)],Q [R [m 5 0,E 6 48 [.t 5,i 1,i 1000000],u 7 6,m 8 7,H 8 (m 9 1),H 8 (C 10 57 [9]),H 8 (u 11 10),o 12 8 11],J 12 (Q [R [c 4 (.string ⟨#[]⟩)],.ret])],R [m 13 0,C 14 160 [13],k 15 (.bin .add (.c (.string ⟨#[115]⟩)) (.t 14)),m 16 1,b 17 .add 15 16,C 18 170 [17],m 4 18],.ret],[.t 4]⟩).b
theorem yH : EE.fns 153 = some mB := by kernel_rfl
def aA : CF := ({ b := _ } : V (α := CF) ⟨32,Q [R [c 2 (.string ⟨#[]⟩)],Q [R [m 5 0,h 6 5,B 7 .gtr 6 12],J 7 (Q [R [c 2 (.string ⟨#[]⟩)],.ret])],R [m 8 0,h 9 8,C 10 160 [9],k 11 (.bin .add (.c (.string ⟨#[108]⟩)) (.t 10)),m 3 11],Q [R [j 4 0],F 0 (Q [Q [R [m 12 4,m 13 0,h 14 13,b 15 .lss 12 14],U 15 (.exit 0)],.block 1 (Q [Q [R [m 18 0,m 19 4,A 20 1 18 19,l 21 20,C 22 57 [21],u 23 22],J 23 (Q [R [c 2 (.string ⟨#[]⟩)],.ret])],R [m 24 3,m 25 0,m 26 4,A 27 1 25 26,l 28 27,b 29 .add 24 28,m 3 29]]),R [m 16 4,B 17 .add 16 1,m 4 17]])],R [m 30 3,C 31 170 [30],m 2 31],.ret],[.t 2]⟩).b
theorem oS : EE.fns 154 = some aA := by kernel_rfl
def kE : CF := ({ b := _ } : V (α := CF) ⟨18,Q [R [N 2 y1],R [m 4 0,E 5 93 [.t 4,i 8],m 6 0,E 7 93 [.t 6,i 256],m 8 0,E 9 93 [.t 8,i 90],k 10 (.build y1 [(0,(1,.t 5)),(1,(1,.t 7)),(2,(1,.t 9))]),N 3 y1,s 3 3 10],Q [R [m 11 0,E 12 92 [.t 11,i 3]],J 12 (R [f 13 0 3,S 1 13 (i 7)])],Q [R [m 14 0,E 15 92 [.t 14,i 3]],J 15 (R [f 16 1 3,S 1 16 (i 255)])],R [L 17 3 3,s 3 2 17],.ret],[.cell 2 3 true]⟩).b
theorem rS : EE.fns 155 = some kE := by kernel_rfl
def jI : CF := ({ b := _ } : V (α := CF) ⟨27,Q [R [N 2 y1],R [m 4 0,C 5 155 [4],N 3 y1,s 3 3 5],Q [R [m 6 0,E 7 92 [.t 6,i 8]],J 7 (Q [R [m 8 0,E 9 93 [.t 8,i 3]],.block 0 (Q [R [B 15 .eql 9 0,m 14 15],W 14 (R [m 16 0,k 17 (.mkO 2 1 y0 [(0,i (-1)),(1,i 8)]),C 18 94 [16,17],f 19 0 3,s 1 19 18]) (Q [R [B 21 .eql 9 1,m 20 21],W 20 (R [m 22 0,k 23 (.mkO 2 1 y0 [(0,i (-1)),(1,i 256)]),C 24 94 [22,23],f 25 1 3,s 1 25 24]) (R [m 10 0,k 11 (.mkO 3 1 y0 [(0,i (-1)),(1,i 100000),(2,i 100001)]),C 12 94 [10,11],f 13 2 3,s 1 13 12])])])])],R [L 26 3 3,s 3 2 26],.ret],[.cell 2 3 true]⟩).b
theorem Aam : EE.fns 156 = some jI := by kernel_rfl
def mO : CF := ({ b := _ } : V (α := CF) ⟨31,Q [R [M 1 0,z 2 false],R [f 3 0 1,l 4 3,C 5 61 [4],m 6 5,G 6 (f 7 1 1),G 6 (l 8 7),G 6 (C 9 100 [8]),a 10 6 9,m 11 10,G 11 (f 12 2 1),G 11 (l 13 12),G 11 (E 14 48 [.t 13,i 1,i 1000000]),a 15 11 14,m 16 15,G 16 (f 17 3 1),G 16 (L 18 3 17),G 16 (C 19 101 [18]),a 20 16 19,m 21 20,G 21 (f 22 6 1),G 21 (l 23 22),G 21 (E 24 62 [.t 23,i 6,i 3]),a 25 21 24,m 26 25,G 26 (f 27 7 1),G 26 (l 28 27),G 26 (E 29 62 [.t 28,i 4,i 3]),a 30 26 29,m 2 30],.ret],[.t 2]⟩).b
theorem tY : EE.fns 157 = some mO := by kernel_rfl
def mZ : CF := ({ b := _ } : V (α := CF) ⟨30,Q [R [c 2 (.string ⟨#[]⟩)],R [k 6 (.mkO 0 1 y4 []),m 3 6],Q [R [j 4 0],F 0 (Q [Q [R [m 7 4,m 8 0,h 9 8,b 10 .lss 7 9,m 11 10,G 11 (m 12 4),G 11 (B 13 .leq 12 12),a 14 11 13],U 14 (.exit 0)],.block 1 (Q [R [m 17 0,m 18 4,A 19 1 17 18,l 20 19,C 21 171 [20],m 5 21],Q [R [m 22 5,k 23 (.bin .eql (.t 22) (.c (.string ⟨#[]⟩)))],J 23 (Q [R [c 2 (.string ⟨#[]⟩)],.ret])],R [m 24 3,m 25 5,k 26 (.mkV 1 1 y4 [(0,.t 25)]),k 27 (.app 1 16 (.t 24) (.t 26)),m 3 27]]),R [m 15 4,B 16 .add 15 1,m 4 16]])],R [m 28 3,C 29 154 [28],m 2 29],.ret],[.t 2]⟩).b
theorem xE : EE.fns 158 = some mZ := by kernel_rfl
def hD : CF := ({ b := _ } : V (α := CF) ⟨14,Q [R [M 1 0,c 2 (.string ⟨#[]⟩)],Q [R [L 3 3 1,C 4 101 [3],u 5 4],J 5 (Q [R [c 2 (.string ⟨#[]⟩)],.ret])],R [f 6 0 1,l 7 6,f 8 1 1,l 9 8,f 10 2 1,l 11 10,k 12 (.mkO 3 1 y0 [(0,.t 7),(1,.t 9),(2,.t 11)]),C 13 158 [12],m 2 13],.ret],[.t 2]⟩).b
theorem vC : EE.fns 159 = some hD := by kernel_rfl
def kV : CF := ({ b := _ } : V (α := CF) ⟨22,Q [R [M 1 0,N 2 y14],D [k 3 (.mkV 0 1 y0 []),f 4 0 1,p [1] (l 5 4),p [0,2,1] (k 6 (.appP 1 8 3 (.t 5))),k 7 (.mkV 0 1 y0 []),f 8 1 1,p [5] (l 9 8),p [4,6,5,3,0,2,1] (k 10 (.appP 1 8 7 (.t 9))),k 11 (.mkV 0 2 y11 []),f 12 2 1,p [9] (l 13 12),p [8,10,9,7,4,6,5,3,0,2,1] (k 14 (.appP 2 16 11 (.t 13))),k 15 (.mkV 0 2 y11 []),f 16 3 1,p [13] (l 17 16),p [12,14,13,11,8,10,9,7,4,6,5,3,0,2,1] (k 18 (.appP 2 16 15 (.t 17))),f 19 4 1,p [16] (l 20 19),p [3,0,2,1,7,4,6,5,11,8,10,9,15,12,14,13,17,16] (k 21 (.build y14 [(0,(1,.t 6)),(1,(1,.t 10)),(2,(1,.t 14)),(3,(1,.t 18)),(4,(1,.t 20))])),p [18,3,0,2,1,7,4,6,5,11,8,10,9,15,12,14,13,17,16] (s 5 2 21)],.ret],[.cell 2 5 true]⟩).b
theorem uI : EE.fns 163 = some kV := by kernel_rfl
def kU : CF := ({ b := _ } : V (α := CF) ⟨2,Q [R [N 0 y8],R [k 1 (.build y8 [(0,(1,i (-1)))]),s 2 0 1],.ret],[.cell 0 2 true]⟩).b
theorem tC : EE.fns 164 = some kU := by kernel_rfl
def mF : CF := ({ b := _ } : V (α := CF) ⟨128,Q [R [M 2 0,M 3 1,z 4 false],D [f 7 2 3,p [0] (l 8 7),p [1,0] (B 9 .geq 8 0),p [2,1,0] (m 10 9),p [3,2,1,0] (G 10 (f 11 2 3)),p [4,3,2,1,0] (G 10 (l 12 11)),p [3,2,1,0] (G 10 (f 13 11 2)),p [6,3,2,1,0] (G 10 (l 14 13)),p [7,6,3,2,1,0] (G 10 (h 15 14)),p [5,4,3,2,1,0,8,7,6] (G 10 (b 16 .lss 12 15)),p [3,2,1,0,9,5,4,8,7,6] (a 17 10 16),p [10,3,2,1,0,9,5,4,8,7,6] (m 18 17),p [11,10,3,2,1,0,9,5,4,8,7,6] (G 18 (f 19 11 2)),p [12,11,10,3,2,1,0,9,5,4,8,7,6] (G 18 (l 20 19)),p [11,10,3,2,1,0,9,5,4,8,7,6] (G 18 (f 21 2 3)),p [14,11,10,3,2,1,0,9,5,4,8,7,6] (G 18 (l 22 21)),p [13,12,11,10,3,2,1,0,9,5,4,8,7,6,15,14] (G 18 (A 23 8 20 22)),p [16,13,12,11,10,3,2,1,0,9,5,4,8,7,6,15,14] (G 18 (f 24 0 23)),p [17,16,13,12,11,10,3,2,1,0,9,5,4,8,7,6,15,14] (G 18 (l 25 24)),p [11,10,3,2,1,0,9,5,4,8,7,6] (G 18 (f 26 1 3)),p [19,11,10,3,2,1,0,9,5,4,8,7,6] (G 18 (l 27 26)),p [18,17,16,13,12,11,10,3,2,1,0,9,5,4,8,7,6,15,14,20,19] (G 18 (b 28 .eql 25 27)),p [11,10,3,2,1,0,9,5,4,8,7,6,21,18,17,16,13,12,15,14,20,19] (a 29 18 28),p [22,11,10,3,2,1,0,9,5,4,8,7,6,21,18,17,16,13,12,15,14,20,19] (m 5 29)],R [f 30 2 3,l 31 30,B 32 .geq 31 0,m 33 32,G 33 (f 34 2 3),G 33 (l 35 34),G 33 (f 36 7 2),G 33 (l 37 36),G 33 (h 38 37),G 33 (b 39 .lss 35 38),a 40 33 39,m 6 40],Q [R [f 41 0 3,l 42 41],.block 0 (Q [R [B 44 .eql 42 2,m 43 44],W 43 (Q [R [f 45 1 3,l 46 45,C 47 61 [46],m 4 47],.ret]) (Q [R [B 49 .eql 42 3,m 48 49],W 48 (Q [Q [D [f 50 4 3,p [0] (l 51 50),f 52 14 2,p [2] (l 53 52),p [3,2] (h 54 53),p [1,0,4,3,2] (b 55 .gtr 51 54),p [5,1,0,4,3,2] (m 56 55),p [6,5,1,0,4,3,2] (H 56 (f 57 4 3)),p [7,6,5,1,0,4,3,2] (H 56 (l 58 57)),p [8,7,6,5,1,0,4,3,2] (H 56 (B 59 .gtr 58 0)),p [9,8,7,6,5,1,0,4,3,2] (H 56 (m 60 59)),p [10,9,8,7,6,5,1,0,4,3,2] (G 60 (f 61 14 2)),p [11,10,9,8,7,6,5,1,0,4,3,2] (G 60 (l 62 61)),p [10,9,8,7,6,5,1,0,4,3,2] (G 60 (f 63 4 3)),p [13,10,9,8,7,6,5,1,0,4,3,2] (G 60 (l 64 63)),p [14,13,10,9,8,7,6,5,1,0,4,3,2] (G 60 (B 65 .sub 64 1)),p [12,11,10,9,8,7,6,5,1,0,4,3,2,15,14,13] (G 60 (A 66 15 62 65)),p [16,12,11,10,9,8,7,6,5,1,0,4,3,2,15,14,13] (G 60 (f 67 0 66)),p [17,16,12,11,10,9,8,7,6,5,1,0,4,3,2,15,14,13] (G 60 (l 68 67)),p [10,9,8,7,6,5,1,0,4,3,2] (G 60 (f 69 1 3)),p [19,10,9,8,7,6,5,1,0,4,3,2] (G 60 (l 70 69)),p [20,19,10,9,8,7,6,5,1,0,4,3,2] (G 60 (B 71 .sub 70 3)),p [18,17,16,12,11,10,9,8,7,6,5,1,0,4,3,2,15,14,13,21,20,19] (G 60 (b 72 .neq 68 71)),p [10,9,8,7,6,5,1,0,4,3,2,22,18,17,16,12,11,15,14,13,21,20,19] (H 56 (a 73 60 72)),p [6,5,1,0,4,3,2,23,10,9,8,7,22,18,17,16,12,11,15,14,13,21,20,19] (o 74 56 73)],J 74 (Q [R [z 4 false],.ret])],R [f 75 1 3,l 76 75,C 77 61 [76],m 78 77,G 78 (m 79 5),a 80 78 79,m 4 80],.ret]) (Q [R [B 82 .eql 42 4,m 81 82],W 81 (Q [R [f 83 1 3,l 84 83,C 85 173 [84],m 86 85,G 86 (m 87 6),a 88 86 87,m 4 88],.ret]) (Q [R [B 90 .eql 42 5,m 89 90],W 89 (Q [R [f 91 1 3,l 92 91,C 93 61 [92],m 94 93,G 94 (m 95 6),a 96 94 95,m 4 96],.ret]) (Q [R [B 98 .eql 42 6,m 97 98],W 97 (Q [R [f 99 1 3,l 100 99,C 101 61 [100],m 102 101,G 102 (m 103 5),a 104 102 103,m 105 104,G 105 (f 106 3 3),G 105 (l 107 106),G 105 (E 108 48 [.t 107,i 0,i 7]),a 109 105 108,m 4 109],.ret]) (Q [R [B 111 .eql 42 7,m 110 111],W 110 (Q [R [f 112 1 3,l 113 112,E 114 48 [.t 113,i 0,i 2],m 115 114,G 115 (m 116 6),a 117 115 116,m 4 117],.ret]) (Q [R [B 119 .eql 42 8,m 118 119],W 118 (Q [R [f 120 1 3,l 121 120,C 122 174 [121],m 4 122],.ret]) (Q [R [B 124 .eql 42 10,m 123 124],J 123 (Q [R [f 125 1 3,l 126 125,E 127 48 [.t 126,i 0,i 2],m 4 127],.ret])])])])])])])])])],R [z 4 true],.ret],[.t 4]⟩).b
theorem rW : EE.fns 165 = some mF := by kernel_rfl
end
noncomputable def X9 : Hb := { fns := Py Go.Proofs.Tryz.prog (fun _ _ => false), prim := fun _ => none, pw := fun _ => false, tr := fun f => trT.contains f }
theorem Abu : X9.fns 51 = some wS := by kernel_rfl
theorem Aa8 : X9.fns 82 = some nV := by kernel_rfl
theorem Abr {H : Hp} {a b c : Int} : Aw X9 82 [.int .i64 a, .int .i64 b, .int .i64 c] H (.bool (A0 a b c)) := by
 refine Ag rfl rfl Aa8 (by simp [nV]) rfl fun m hw => ?_
 unfold A0
 simp only [go_sem, Nat.reduceEqDiff, reduceCtorEq, nV]
 refine Bf.intro (fun q => ?_) (fun q => ?_) <;> simp only [go_sem, Nat.reduceEqDiff, reduceCtorEq, q]
theorem eT {H : Hp} {l : List ByteArray} (h : l.length ≤ 1000) : Dz (H ++ [l.map Value.string]) (.slice (some ⟨H.length, 0, some 1⟩) l.length (l.length * 1)) l :=
 .inr ⟨H.length, 0, l.length * 1, l.map Value.string, rfl, by simp, by simp, by simp, by omega, fun i b hi => by
  unfold En eS
  refine List.ext_getElem? fun j => ?_
  rw [List.getElem?_take, List.getElem?_drop]
  cases j with
  | zero =>
   simp only [Nat.lt_one_iff, if_true, Nat.zero_add, Nat.mul_one, Nat.add_zero, List.getElem?_map, hi]
   rfl
  | succ j => simp⟩
theorem fG {H : Hp} {l : List Int} (h : l.length ≤ 1000) : Bu (H ++ [l.map (Value.int .i64)]) (.slice (some ⟨H.length, 0, some 1⟩) l.length (l.length * 1)) l :=
 .inr ⟨H.length, 0, l.length * 1, l.map (Value.int .i64), rfl, by simp, by simp, by simp, by omega, fun i b hi => by
  unfold En eI
  refine List.ext_getElem? fun j => ?_
  rw [List.getElem?_take, List.getElem?_drop]
  cases j with
  | zero =>
   simp only [Nat.lt_one_iff, if_true, Nat.zero_add, Nat.mul_one, Nat.add_zero, List.getElem?_map, hi]
   rfl
  | succ j => simp⟩
theorem Ya {k : Int} (h : A0 k 1 4 = false) : El k = ⟨#[101, 118, 101, 110, 116]⟩ := by
 have h2 : ¬ (1 ≤ k ∧ k ≤ 4) := fun e => by rw [Bz.2 e] at h; cases h
 unfold El
 rw [if_neg (by omega), if_neg (by omega), if_neg (by omega), if_neg (by omega)]
def nM : List ByteArray := [⟨#[108, 111, 103, 105, 110]⟩, ⟨#[105, 115, 115, 117, 101]⟩, ⟨#[114, 101, 102, 101, 114]⟩, ⟨#[100, 101, 108, 101, 103, 97, 116, 101]⟩]
theorem Y5 {k : Int} (h : A0 k 1 4 = true) : ∃ i : Nat, k = (i : Int) + 1 ∧ i < 4 ∧ nM[i]? = some (El k) ∧ (⟨#[]⟩ :: nM)[i + 1]? = some (El k) := by
 have h2 := Bz.1 h
 obtain ⟨i, rfl⟩ : ∃ i : Nat, k = (i : Int) + 1 := ⟨(k - 1).toNat, by omega⟩
 have : i = 0 ∨ i = 1 ∨ i = 2 ∨ i = 3 := by omega
 rcases this with rfl | rfl | rfl | rfl <;> exact ⟨_, rfl, by omega, rfl, rfl⟩
theorem Aab {H : Hp} {k : Int} : Aw X9 51 [.int .i64 k] H (.string (El k)) := by
 refine Ag rfl rfl Abu (by simp [wS]) rfl fun m hw => ?_
 have a82 := Ax (Abr (H := H) (a := k) (b := 1) (c := 4))
 simp only [go_sem, Nat.reduceEqDiff, reduceCtorEq, Nat.reduceLeDiff, wS, a82, hw]
 cases q : A0 k 1 4 <;> simp only [go_sem, Nat.reduceEqDiff, reduceCtorEq, Nat.reduceLeDiff, q]
 ·rw [Ya q]
 obtain ⟨i, rfl, hi, hg, _⟩ := Y5 q
 have hs : Dz (H ++ [[.string ⟨#[108, 111, 103, 105, 110]⟩, .string ⟨#[105, 115, 115, 117, 101]⟩, .string ⟨#[114, 101, 102, 101, 114]⟩, .string ⟨#[100, 101, 108, 101, 103, 97, 116, 101]⟩]]) (.slice (some ⟨H.length, 0, some 1⟩) 4 (4 * 1)) nM := eT (l := nM) (by decide)
 obtain ⟨id, p, o, ho, hr, hia⟩ := hs.str hg
 have wk : IntKind.i64.wrap ((i : Int) + 1 - 1) = (i : Int) := by rw [Ab _ (by omega) (by omega)]; omega
 simp only [go_sem, Nat.reduceEqDiff, reduceCtorEq, Nat.reduceLeDiff, Nat.reduceMul, wk, hia, ho, hr]
 try simp
def aP : CF := ⟨25, (.seq (.reg false [⟨(some 2), .none, (.mov (.c (.string ⟨#[]⟩))), 0, []⟩]) (.seq (.seq (.reg false [⟨(some 4), .none, (.mov (.t 0)), 0, []⟩, ⟨(some 5), .none, (.call 48 [(.t 4), (.c (.int .i64 0)), (.c (.int .i64 562949953421311))]), 1, []⟩, ⟨(some 6), .none, (.un .not (.t 5)), 2, []⟩]) (.cond (.t 6) (.seq (.reg false [⟨(some 2), .none, (.mov (.c (.string ⟨#[]⟩))), 0, []⟩]) .ret) .skip)) (.seq (.reg false [⟨(some 7), .none, (.mkO 0 1 [(.int .u8 0)] []), 0, []⟩, ⟨(some 3), .none, (.mov (.t 7)), 1, []⟩]) (.seq (.block 0 (.loop (.seq (.seq (.reg false [⟨(some 8), .none, (.mov (.t 0)), 0, []⟩, ⟨(some 9), .none, (.bin .geq (.t 8) (.c (.int .i64 128))), 1, []⟩]) (.cond (.t 9) .skip (.exit 0))) (.block 1 (.seq (.reg false [⟨(some 10), .none, (.mov (.t 3)), 0, []⟩, ⟨(some 11), .none, (.mov (.t 0)), 1, []⟩, ⟨(some 12), .none, (.bin .rem (.t 11) (.c (.int .i64 128))), 2, []⟩, ⟨(some 13), .none, (.bin .add (.c (.int .i64 128)) (.t 12)), 3, []⟩, ⟨(some 14), .none, (.toInt .u8 (.t 13)), 4, []⟩, ⟨(some 15), .none, (.mkO 1 1 [(.int .u8 0)] [(0, (.t 14))]), 5, []⟩, ⟨(some 16), .none, (.app 1 1 (.t 10) (.t 15)), 6, []⟩, ⟨(some 3), .none, (.mov (.t 16)), 7, []⟩]) (.reg false [⟨(some 17), .none, (.mov (.t 0)), 0, []⟩, ⟨(some 18), .none, (.bin .quo (.t 17) (.c (.int .i64 128))), 1, []⟩, ⟨(some 0), .none, (.mov (.t 18)), 2, []⟩])))))) (.seq (.reg false [⟨(some 19), .none, (.mov (.t 3)), 0, []⟩, ⟨(some 20), .none, (.mov (.t 0)), 1, []⟩, ⟨(some 21), .none, (.toInt .u8 (.t 20)), 2, []⟩, ⟨(some 22), .none, (.mkO 1 1 [(.int .u8 0)] [(0, (.t 21))]), 3, []⟩, ⟨(some 23), .none, (.app 1 1 (.t 19) (.t 22)), 4, []⟩, ⟨(some 24), .none, (.b2s (.t 23)), 5, []⟩, ⟨(some 2), .none, (.mov (.t 24)), 6, []⟩]) .ret))))), [(.t 2)]⟩
theorem pZ : X9.fns 160 = some aP := by kernel_rfl
theorem Abx : X9.fns 48 = some nU := by kernel_rfl
theorem nX : X9.fns 152 = some Tu := by kernel_rfl
theorem qP {H : Hp} {a b c : Int} : Aw X9 48 [.int .i64 a, .int .i64 b, .int .i64 c] H (.bool (A0 a b c)) := by
 refine Ag rfl rfl Abx (by simp [nU]) rfl fun m hw => ?_
 unfold A0
 simp only [go_sem, Nat.reduceEqDiff, reduceCtorEq, nU]
 refine Bf.intro (fun q => ?_) (fun q => ?_) <;> simp only [go_sem, Nat.reduceEqDiff, reduceCtorEq, q]
theorem Sl.oneO {m : Md} {N : Nat} {H : Hp} {v : Value} {l : List Nat} (a : Nat) (h : My H v l) (ho : Ao N v) (hN : N ≤ H.length) (hw : ∀ id, N ≤ id → m.wr id = true) (hb : l.length < 1048576) :
  ∃ v' H', (∀ (s : St) (x y : X), s.H = H ++ [[.int .u8 (a : Int)]] → Av s.ρ x = some v → ex s.ρ y = .val (.slice (some ⟨H.length, 0, some 1⟩) 1 1) → Ce m s 1 1 x y = some (.val v', { s with H := H' })) ∧ My H' v' (l ++ [a]) ∧ Ao N v' ∧ ∀ H0 : Hp, H0.length ≤ N → H0 <+: H → H0 <+: H' := by
 have p : H <+: H ++ [[.int .u8 (a : Int)]] := Eg
 obtain ⟨v', H', h1, h2, h3, h4, h5, h6, h7⟩ := (h.pre p).app (m := m) (n := 1) (bytes := 1) (l2 := [a]) (cs := [.int .u8 (a : Int)]) ho (C8 hN p.length_le) hw (fun _ => rfl) (by simp) rfl (fun i b hi => by
  cases i with
  | zero => simp at hi; subst hi; rfl
  | succ i => simp at hi) (by unfold Ev.room; simp; omega) (by unfold Ev.room; simp; omega)
 exact ⟨v', H', fun s x y hH hx hy => h1 s x y hH hx (by rw [hy]; simp [F8, Nc]), h2, h3, fun H0 a b => h7 H0 a (b.trans p)⟩
theorem oA {H : Hp} {n : Int} : Aw X9 160 [.int .i64 n] H (.string (Bx n)) := by
 refine Ag rfl rfl pZ (by simp [aP]) rfl fun m hw => ?_
 have a48 := fun {draw s' d' ts Q} => Bw (m := m) (draw := draw) (s := s') (d := d') (ts := ts) (Q := Q) (qP (H := H ) (a := n) (b := 0) (c := 562949953421311))
 simp only [go_sem, Nat.reduceEqDiff, aP, a48, hw, Ba]
 refine Bf.intro (fun h => ?_) (fun h => ?_) <;> simp only [go_sem, Nat.reduceEqDiff, Ba]
 rotate_left
 ·rw [Oe h]
 obtain ⟨h0, h1⟩ := Ri h
 obtain ⟨k, rfl⟩ : ∃ k : Nat, n = k := ⟨n.toNat, by omega⟩
 have hV : Bx (k : Int) = Bo (Cv k) := by unfold Bx; rw [if_pos ⟨h0, h1⟩]; rfl
 have h7 : (128 : Nat) ^ (6 + 1) = 562949953421312 := by decide
 have hlen := Ht 6 k (by omega)
 rw [hV]
 refine Fq (fun j s => H <+: s.H ∧ s.ρ 0 = .val (.int .i64 j) ∧ j ≤ k ∧ ∃ wv l, s.ρ 3 = .val wv ∧ My s.H wv l ∧ Ao H.length wv ∧ l ++ Cv j = Cv k)
  (fun s => H <+: s.H ∧ ∃ (j : Nat) (wv : Value) (l : List Nat), s.ρ 0 = .val (.int .i64 j) ∧ j < 128 ∧ s.ρ 3 = .val wv ∧ My s.H wv l ∧ Ao H.length wv ∧ l ++ [j] = Cv k) k ?_ ?_ ?_
 ·exact ⟨Eg, by simp [Ah, Cb], Nat.le_refl _, _, [], by simp [Ah], Jk, .inr ⟨_, _, _, _, rfl, Nat.le_refl _⟩, rfl⟩
 ·rintro j s ⟨hH, h0', hj, wv, l, h3, hs, ho, hl⟩
  simp only [go_sem, Nat.reduceEqDiff, h0', h3]
  refine Bf.intro (fun q1 => ?_) (fun q1 => ?_) <;> simp only [go_sem, Nat.reduceEqDiff, h0', h3]
  ·have q2 : ¬ j < 128 := by have := As q1; omega
   have hll := congrArg List.length hl
   have hp := G7 j
   rw [List.length_append] at hll
   obtain ⟨v2, H2, e1, e2, e3, e7⟩ := hs.oneO (m := m) (j % 128 + 128) ho hH.length_le hw (by omega)
   have t1 : Int.tmod (j : Int) 128 = ((j % 128 : Nat) : Int) := rfl
   have t2 : Int.tdiv (j : Int) 128 = ((j / 128 : Nat) : Int) := rfl
   have t3 : IntKind.u8.wrap (128 + ((j % 128 : Nat) : Int)) = ((j % 128 + 128 : Nat) : Int) := by rw [Lj _ (by omega) (by omega)]; omega
   simp only [go_sem, Nat.reduceEqDiff, h0', h3, Ty, t1, t2, Ab (128 + ((j % 128 : Nat) : Int)) (by omega) (by omega), t3]
   rw [e1]
   rotate_left
   ·rfl
   ·rfl
   ·rfl
   simp only [go_sem, Nat.reduceEqDiff, h0', h3, Ty, t1, t2, Ab (((j / 128 : Nat) : Int)) (by omega) (by omega)]
   refine ⟨j / 128, by omega, e7 H (Nat.le_refl _) hH, rfl, by omega, v2, _, rfl, e2, e3, ?_⟩
   rw [List.append_assoc, List.singleton_append, ← Ib q2]
   exact hl
  ·have q2 : j < 128 := by have := Au q1; omega
   rw [Hh q2] at hl
   exact ⟨hH, j, wv, l, rfl, q2, rfl, hs, ho, hl⟩
 ·rintro s ⟨hH, j, wv, l, h0', hj, h3, hs, ho, hl⟩
  have hll := congrArg List.length hl
  rw [List.length_append] at hll
  obtain ⟨v2, H2, e1, e2, e3, e7⟩ := hs.oneO (m := m) j ho hH.length_le hw (by simp at hll; omega)
  have hb := e2.b2s (fun x hx => by
   rw [hl] at hx
   obtain ⟨i, hi⟩ := List.getElem?_of_mem hx
   exact (Fp k i x hi).1)
  simp only [go_sem, Nat.reduceEqDiff, h0', h3, Lj (j : Int) (by omega) (by omega)]
  rw [e1]
  rotate_left
  ·rfl
  ·rfl
  ·rfl
  simp only [go_sem]
  rw [hb]
  rotate_left
  ·rfl
  ·rfl
  simp only [go_sem, hl]
  exact Fz (e7 H (Nat.le_refl _) hH)
theorem vW (n : Nat) : nP n = Cv n := by
 induction n using Nat.strongRecOn with
 | _ n ih =>
  rw [nP]
  by_cases h : n < 128
  ·rw [if_pos h, Hh h]
  ·rw [if_neg h, Ib h, ih (n / 128) (by omega)]
theorem oZ {H : Hp} {n : Int} : Aw X9 152 [.int .i64 n] H (.string (iZ n)) := by
 refine Ag rfl rfl nX (by simp [Tu]) rfl fun m hw => ?_
 have h7 := D0 n
 have h1 : (⟨#[107]⟩ : ByteArray).size = 1 := rfl
 have hs : (⟨#[107]⟩ : ByteArray).size + (Bx n).size ≤ 9223372036854775807 := by rw [h1]; omega
 have a48 := Ax (qP (H := H) (a := n) (b := 1) (c := 1000000))
 have a160 := Ax (oA (H := H) (n := n))
 simp only [go_sem, Nat.reduceEqDiff, Tu, a48, hw]
 cases q : A0 n 1 1000000 <;> simp only [go_sem, Nat.reduceEqDiff, q, a160, hw, hs]
 ·unfold iZ
  rw [if_neg (fun h => by rw [Bz.2 h] at q; cases q)]
 ·have hb := Bz.1 q
  unfold iZ Bx Bo
  rw [if_pos hb, if_pos ⟨by omega, by omega⟩, vW]
theorem So {f : Nat} {k : Int} {b : ByteArray} (h : Aw X9 f [.int .i64 k] [] (.string b)) : (∃ fn, Go.Proofs.Tryz.prog.funcs[f]? = some fn ∧ fn.body.isSome = true ∧ (fn.name == "runtime.NumGoroutine") = false) ∧
  ∀ w : World, Calls Go.Proofs.Tryz.prog f #[.int .i64 k] w fun e w' => e = .returned (.string b) ∧ RowKit.Below w.heap.size w w' := by
 have hk := h { wr := fun id => decide (([] : Hp).length ≤ id), nr := false } (fun id hid => by simpa using hid)
 obtain ⟨kk, r, H', h1, h2⟩ := hk
 have hs := fA (B := 0) (P := Go.Proofs.Tryz.prog) (E := X9) (hv := fun _ _ => false) (by kernel_rfl) rfl (.inr fun _ _ => rfl) (fun f p h => by cases h) (fun f p h => by cases h) kk _ _ _ _ _ _ h1 (fun id _ => Nat.zero_le _) (Nat.zero_le _)
 refine ⟨hs.1, fun w => ?_⟩
 refine (hs.2 (fun _ => none) w #[.int .i64 k] (Ga.nil w) (.cons (.int _ _) .nil)).mono fun e w' ⟨v, J', he, t1, t2, t3⟩ => ?_
 rw [h2.1] at t3
 rw [t3.str_inv] at he
 exact ⟨he, t1.os, t1.tape, t1.output, t1.grow, fun b hb => t1.frame b hb fun id l hl _ => by cases hl⟩
theorem W0 : D2 Go.Proofs.Tryz.prog := by
 intro f k v h
 have h : (if f = 51 then some (Value.string (El k)) else if f = 152 then some (Value.string (iZ k)) else none) = some v := h
 split at h
 ·rename_i hf
  subst hf
  cases h
  exact So Aab
 ·split at h
  ·rename_i hf
   subst hf
   cases h
   exact So oZ
  ·cases h
section
open K
def mX : CF := ({ b := _ } : V (α := CF) ⟨163,Q [R [M 2 0,M 3 1,N 4 y3,z 5 false],Q [R [f 10 0 3,l 11 10],.block 0 (Q [R [B 13 .eql 11 1,m 12 13],W 12 (Q [Q [R [f 14 5 2,l 15 14,B 16 .geq 15 100000],J 16 (Q [R [L 17 16 2,s 16 4 17,z 5 false],.ret])],R [f 18 5 2,l 19 18,B 20 .add 19 1,f 21 5 2,s 1 21 20],R [L 22 16 2,s 16 4 22,z 5 true],.ret]) (Q [R [B 24 .eql 11 2,m 23 24],W 23 (Q [R [f 25 6 2,l 26 25,m 6 26],D [L 28 16 2,f 29 1 3,p [1] (l 30 29),f 31 5 2,p [3] (l 32 31),m 33 6,p [2,1,4,3,5] (C 34 176 [30,32,33]),p [0,6,2,1,4,3,5] (C 35 175 [28,34]),p [7,0,6,2,1,4,3,5] (m 27 35),p [8,7,0,6,2,1,4,3,5] (e 36 27 0),p [8,7,0,6,2,1,4,3,5] (e 37 27 1),N 7 y3,p [11,9,8,7,0,6,2,1,4,3,5] (s 16 7 36),p [10,8,7,0,6,2,1,4,3,5,12,11,9] (m 8 37)],Q [R [m 38 8],J 38 (D [f 39 10 7,p [0] (l 40 39),f 41 1 3,p [2] (l 42 41),m 43 6,f 44 1 3,p [5] (l 45 44),p [6,5] (C 46 177 [45]),f 47 1 3,p [8] (l 48 47),p [4,7,6,5,9,8] (k 49 (.build y12 [(0,(1,.c (.bool true))),(1,(1,.t 43)),(2,(1,.t 46)),(3,(1,.t 48))])),p [1,0,3,2,4,5,6,7,8,9,10] (A 50 4 40 42),p [11,1,0,3,2,4,5,6,7,8,9,10] (s 4 50 49)])],R [L 51 16 7,m 52 8,s 16 4 51,m 5 52],.ret]) (Q [R [B 54 .eql 11 3,m 53 54],W 53 (Q [R [L 55 16 2,L 56 9 3,C 57 178 [55,56],e 58 57 0,e 59 57 1,s 16 4 58,m 5 59],.ret]) (Q [R [B 61 .eql 11 4,m 60 61],W 60 (Q [R [L 62 16 2,L 63 9 3,C 64 179 [62,63],e 65 64 0,e 66 64 1,s 16 4 65,m 5 66],.ret]) (Q [R [B 68 .eql 11 5,m 67 68],W 67 (Q [R [L 69 16 2,L 70 9 3,C 71 180 [69,70],e 72 71 0,e 73 71 1,s 16 4 72,m 5 73],.ret]) (Q [R [B 75 .eql 11 6,m 74 75],W 74 (Q [R [f 76 11 2,l 77 76,f 78 2 3,l 79 78,A 80 8 77 79,L 81 8 80,N 9 y9,s 8 9 81],Q [R [f 82 2 9,l 83 82,B 84 .geq 83 10],J 84 (Q [R [L 85 16 2,s 16 4 85,z 5 false],.ret])],D [L 86 16 2,L 87 8 9,f 88 1 9,p [2] (l 89 88),f 90 5 2,p [4] (l 91 90),f 92 6 2,p [6] (l 93 92),p [3,2,5,4,7,6] (k 94 (.build y1 [(0,(1,.t 89)),(1,(1,.t 91)),(2,(1,.t 93))])),f 95 3 3,p [9] (l 96 95),p [1,8,3,2,5,4,7,6,10,9] (C 97 181 [87,94,96]),p [0,11,1,8,3,2,5,4,7,6,10,9] (C 98 175 [86,97]),p [12,0,11,1,8,3,2,5,4,7,6,10,9] (e 99 98 0),p [12,0,11,1,8,3,2,5,4,7,6,10,9] (e 100 98 1),p [13,12,0,11,1,8,3,2,5,4,7,6,10,9,14] (s 16 4 99),p [14,12,0,11,1,8,3,2,5,4,7,6,10,9,15,13] (m 5 100)],.ret]) (Q [R [B 102 .eql 11 7,m 101 102],W 101 (Q [R [L 103 16 2,L 104 9 3,C 105 182 [103,104],e 106 105 0,e 107 105 1,s 16 4 106,m 5 107],.ret]) (Q [R [B 109 .eql 11 8,m 108 109],W 108 (Q [Q [R [f 110 15 2,l 111 110,f 112 1 3,l 113 112,C 114 183 [111,113],m 115 114,H 115 (f 116 15 2),H 115 (l 117 116),H 115 (h 118 117),H 115 (B 119 .geq 118 40),o 120 115 119],J 120 (Q [R [L 121 16 2,s 16 4 121,z 5 false],.ret])],R [f 122 15 2,l 123 122,f 124 1 3,l 125 124,k 126 (.mkV 1 1 y0 [(0,.t 125)]),k 127 (.app 1 8 (.t 123) (.t 126)),f 128 15 2,s 1 128 127],R [f 129 8 2,L 130 2 129,f 131 1 3,l 132 131,C 133 184 [130,132],f 134 8 2,s 2 134 133],R [L 135 16 2,s 16 4 135,z 5 true],.ret]) (Q [R [B 137 .eql 11 9,m 136 137],J 136 (Q [Q [R [f 138 8 2,L 139 2 138,f 140 8 3,l 141 140,C 142 185 [139,141],u 143 142],J 143 (Q [R [L 144 16 2,s 16 4 144,z 5 false],.ret])],R [L 145 16 2,f 146 8 3,l 147 146,C 148 186 [145,147],e 149 148 0,e 150 148 1,s 16 4 149,m 5 150],.ret])])])])])])])])])])],D [f 151 12 2,p [0] (l 152 151),f 153 1 3,p [2] (l 154 153),f 155 5 2,p [4] (l 156 155),f 157 0 2,p [6] (f 158 4 157),p [7,6] (l 159 158),p [5,4,8,7,6] (C 160 187 [156,159]),p [1,0,3,2,4,5,6,7,8,9] (A 161 2 152 154),p [10,1,0,3,2,4,5,6,7,8,9] (s 2 161 160)],R [L 162 16 2,s 16 4 162,z 5 true],.ret],[.cell 4 16 true,.t 5]⟩).b
theorem rZ : EE.fns 166 = some mX := by kernel_rfl
def mJ : CF := ({ b := _ } : V (α := CF) ⟨65,Q [R [M 3 0,j 6 0],Q [R [L 10 5 3,C 11 55 [10],u 12 11,m 13 12,H 13 (m 14 1),H 13 (C 15 173 [14]),H 13 (u 16 15),o 17 13 16,m 18 17,H 18 (m 19 2),H 18 (C 20 173 [19]),H 18 (u 21 20),o 22 18 21,m 23 22,H 23 (m 24 1),H 23 (m 25 2),H 23 (b 26 .eql 24 25),o 27 23 26],J 27 (Q [R [j 6 (-1)],.ret])],R [L 28 5 3,m 29 2,C 30 188 [28,29],m 7 30],R [j 8 (-1)],Q [R [j 9 0],F 0 (Q [Q [R [m 31 9,B 32 .lss 31 3],U 32 (.exit 0)],.block 1 (Q [D [f 35 2 3,p [0] (l 36 35),m 37 1,m 38 9,p [2,3] (k 39 (.build y11 [(0,(1,.t 37)),(1,(1,.t 38))])),p [1,0,4,2,3] (C 40 139 [36,39]),p [5,1,0,4,2,3] (m 41 40),p [6,5,1,0,4,2,3] (G 41 (m 42 7)),p [6,5,1,0,4,2,3] (G 41 (m 43 9)),p [7,6,5,1,0,4,2,3,8] (G 41 (A 44 1 42 43)),p [9,7,6,5,1,0,4,2,3,8] (G 41 (l 45 44)),p [10,9,7,6,5,1,0,4,2,3,8] (G 41 (B 46 .lss 45 3)),p [6,5,1,0,4,2,3,11,10,9,7,8] (a 47 41 46),p [12,6,5,1,0,4,2,3,11,10,9,7,8] (m 48 47),p [13,12,6,5,1,0,4,2,3,11,10,9,7,8] (G 48 (m 49 8)),p [14,13,12,6,5,1,0,4,2,3,11,10,9,7,8] (G 48 (B 50 .lss 49 0)),p [15,14,13,12,6,5,1,0,4,2,3,11,10,9,7,8] (G 48 (m 51 50)),p [16,15,14,13,12,6,5,1,0,4,2,3,11,10,9,7,8] (H 51 (m 52 7)),p [16,15,14,13,12,6,5,1,0,4,2,3,11,10,9,7,8] (H 51 (m 53 9)),p [17,16,15,14,13,12,6,5,1,0,4,2,3,11,10,9,7,8,18] (H 51 (A 54 1 52 53)),p [19,17,16,15,14,13,12,6,5,1,0,4,2,3,11,10,9,7,8,18] (H 51 (l 55 54)),p [16,15,14,13,12,6,5,1,0,4,2,3,11,10,9,7,8] (H 51 (m 56 7)),p [16,15,14,13,12,6,5,1,0,4,2,3,11,10,9,7,8] (H 51 (m 57 8)),p [21,16,15,14,13,12,6,5,1,0,4,2,3,11,10,9,7,8,22] (H 51 (A 58 1 56 57)),p [23,21,16,15,14,13,12,6,5,1,0,4,2,3,11,10,9,7,8,22] (H 51 (l 59 58)),p [20,19,17,16,15,14,13,12,6,5,1,0,4,2,3,11,10,9,7,8,18,24,23,21,22] (H 51 (b 60 .lss 55 59)),p [16,15,14,13,12,6,5,1,0,4,2,3,11,10,9,7,8,25,20,19,17,18,24,23,21,22] (G 48 (o 61 51 60)),p [13,12,6,5,1,0,4,2,3,11,10,9,7,8,26,16,15,14,25,20,19,17,18,24,23,21,22] (a 62 48 61)],J 62 (R [m 63 9,m 8 63])]),R [m 33 9,B 34 .add 33 1,m 9 34]])],R [m 64 8,m 6 64],.ret],[.t 6]⟩).b
theorem wZ : EE.fns 167 = some mJ := by kernel_rfl
def gD : CF := ({ b := _ } : V (α := CF) ⟨133,Q [R [M 3 1,c 4 (.string ⟨#[]⟩)],R [f 14 8 3,L 15 2 14,C 16 189 [15],m 5 16],R [m 17 0,E 18 93 [.t 17,i 3],k 19 (.bin .add (i 1) (.t 18)),m 6 19],Q [R [m 20 5,h 21 20,B 22 .gtr 21 0],J 22 (R [m 23 5,m 24 0,m 25 5,h 26 25,C 27 93 [24,26],A 28 1 23 27,l 29 28,m 6 29])],R [E 30 150 [.c (.string ⟨#[]⟩)],m 7 30],Q [R [f 31 7 3,l 32 31,h 33 32,B 34 .gtr 33 0],J 34 (Q [D [f 36 7 3,p [0] (l 37 36),m 38 0,f 39 7 3,p [3] (l 40 39),p [4,3] (h 41 40),p [2,5,4,3] (C 42 93 [38,41]),p [1,0,6,2,5,4,3] (A 43 1 37 42),p [7,1,0,6,2,5,4,3] (l 44 43),p [8,7,1,0,6,2,5,4,3] (C 45 190 [44]),p [9,8,7,1,0,6,2,5,4,3] (m 35 45),p [10,9,8,7,1,0,6,2,5,4,3] (e 46 35 0),p [10,9,8,7,1,0,6,2,5,4,3] (e 47 35 1),p [11,10,9,8,7,1,0,6,2,5,4,3] (m 8 46),p [12,10,9,8,7,1,0,6,2,5,4,3,13,11] (m 9 47)],R [m 48 8,h 49 48,B 50 .gtr 49 1],J 50 (R [m 51 8,m 52 0,m 53 8,h 54 53,B 55 .sub 54 1,C 56 93 [52,55],k 57 (.bin .add (i 1) (.t 56)),A 58 1 51 57,l 59 58,m 7 59])])],R [m 60 0,E 61 93 [.t 60,i 3],m 10 61],R [m 62 0,E 63 93 [.t 62,i 6],m 11 63],D [m 64 11,m 65 0,m 66 10,p [2] (k 67 (.bin .add (i 10) (.t 66))),m 68 10,p [4] (k 69 (.bin .add (i 10) (.t 68))),m 70 0,p [6] (E 71 93 [.t 70,i 3]),p [3,2,5,4,7,6] (k 72 (.mkO 3 1 y0 [(0,.t 67),(1,.t 69),(2,.t 71)])),p [1,8,3,2,5,4,7,6] (C 73 94 [65,72]),m 74 6,f 75 5 3,p [11] (l 76 75),p [12,11] (B 77 .add 76 30),p [13,12,11] (k 78 (.build y1 [(0,(1,i 7)),(1,(1,i 255)),(2,(1,.t 77))])),p [0,9,1,8,3,2,5,4,7,6,10,14,13,12,11] (k 79 (.build y5 [(0,(1,.t 64)),(1,(1,.t 73)),(2,(1,.t 74)),(3,(3,.t 78))])),m 80 6,p [15,0,9,1,8,3,2,5,4,7,6,10,14,13,12,11,16] (C 81 138 [79,80]),p [17,15,0,9,1,8,3,2,5,4,7,6,10,14,13,12,11,16] (m 12 81)],Q [R [m 82 0,E 83 92 [.t 82,i 3]],J 83 (R [m 84 7,m 12 84])],D [m 85 11,f 86 5 3,p [1] (l 87 86),m 88 0,p [3] (E 89 93 [.t 88,i 9]),p [0,2,1,4,3] (k 90 (.build y1 [(0,(1,.t 85)),(1,(1,.t 87)),(2,(1,.t 89))])),N 13 y1,p [6,5,0,2,1,4,3] (s 3 13 90)],Q [R [m 91 0,E 92 93 [.t 91,i 4]],.block 0 (Q [R [B 94 .eql 92 0,m 93 94],W 93 (Q [D [m 95 12,m 96 6,L 97 3 13,m 98 0,p [3] (E 99 93 [.t 98,i 3]),f 100 5 3,p [5] (l 101 100),p [6,5] (B 102 .add 101 30),p [7,6,5] (k 103 (.build y1 [(0,(1,i 7)),(1,(1,i 255)),(2,(1,.t 102))])),p [0,1,2,4,3,8,7,6,5] (E 104 191 [.t 95,.t 96,.t 97,.t 99,.t 103,i 5,.c (.string ⟨#[]⟩)]),p [9,0,1,2,4,3,8,7,6,5] (m 4 104)],.ret]) (Q [R [B 106 .eql 92 1,m 105 106],W 105 (Q [R [m 107 11,f 108 5 3,l 109 108,E 110 176 [.t 107,.t 109,i 7],m 4 110],.ret]) (Q [R [B 112 .eql 92 2,m 111 112],J 111 (Q [D [m 113 0,p [0] (E 114 93 [.t 113,i 3]),m 115 0,p [2,1,0] (E 116 93 [.t 115,i 8]),p [1,0,3,2] (k 117 (.mkO 3 1 y0 [(0,i 4),(1,.t 114),(2,.t 116)])),p [4,1,0,3,2] (C 118 158 [117]),m 119 12,L 120 3 13,m 121 6,p [7,8,5,4,1,0,3,2] (C 122 192 [120,121]),p [5,4,1,0,3,2,6,9,7,8] (k 123 (.mkO 3 1 y4 [(0,.t 118),(1,.t 119),(2,.t 122)])),p [10,5,4,1,0,3,2,6,9,7,8] (C 124 154 [123]),p [11,10,5,4,1,0,3,2,6,9,7,8] (m 4 124)],.ret])])])])],R [m 125 0,E 126 93 [.t 125,i 3],k 127 (.mkO 3 1 y0 [(0,i 4),(1,.t 126),(2,i 1)]),C 128 158 [127],m 129 7,m 130 7,k 131 (.mkO 3 1 y4 [(0,.t 128),(1,.t 129),(2,.t 130)]),C 132 154 [131],m 4 132],.ret],[.t 4]⟩).b
theorem Aa7 : EE.fns 168 = some gD := by kernel_rfl
def iR : CF := ({ b := _ } : V (α := CF) ⟨48,Q [R [M 5 1,j 8 0],R [j 9 (-1)],Q [R [j 10 0],F 0 (Q [Q [R [m 11 10,f 12 11 5,l 13 12,h 14 13,b 15 .lss 11 14],U 15 (.exit 0)],.block 1 (Q [R [f 18 11 5,l 19 18,m 20 10,A 21 8 19 20,f 22 0 21,l 23 22,m 24 2,b 25 .eql 23 24,m 26 25,G 26 (f 27 11 5),G 26 (l 28 27),G 26 (m 29 10),G 26 (A 30 8 28 29),G 26 (f 31 2 30),G 26 (l 32 31),G 26 (B 33 .geq 32 10),G 26 (m 34 3),G 26 (k 35 (.beq false (.t 33) (.t 34))),a 36 26 35,m 37 36,G 37 (m 38 9),G 37 (B 39 .lss 38 0),G 37 (m 40 39),H 40 (m 41 0),H 40 (E 42 92 [.t 41,i 3]),H 40 (u 43 42),G 37 (o 44 40 43),a 45 37 44],J 45 (R [m 46 10,m 9 46])]),R [m 16 10,B 17 .add 16 1,m 10 17]])],R [m 47 9,m 8 47],.ret],[.t 8]⟩).b
theorem tQ : EE.fns 169 = some iR := by kernel_rfl
def lZ : CF := ({ b := _ } : V (α := CF) ⟨6,Q [R [c 2 (.string ⟨#[]⟩)],Q [R [m 3 0,C 4 57 [3]],J 4 (Q [R [m 5 0,m 2 5],.ret])],R [c 2 (.string ⟨#[]⟩)],.ret],[.t 2]⟩).b
theorem wD : EE.fns 170 = some lZ := by kernel_rfl
def gI : CF := ({ b := _ } : V (α := CF) ⟨10,Q [R [c 2 (.string ⟨#[]⟩)],R [m 4 0,C 5 160 [4],m 3 5],Q [R [m 6 3,k 7 (.bin .eql (.t 6) (.c (.string ⟨#[]⟩)))],J 7 (Q [R [c 2 (.string ⟨#[]⟩)],.ret])],R [m 8 3,C 9 150 [8],m 2 9],.ret],[.t 2]⟩).b
theorem uN : EE.fns 171 = some gI := by kernel_rfl
def mL : CF := ({ b := _ } : V (α := CF) ⟨9,Q [R [z 2 false],R [m 3 0,B 4 .geq 3 0,m 5 4,G 5 (m 6 0),G 5 (B 7 .lss 6 3),a 8 5 7,m 2 8],.ret],[.t 2]⟩).b
theorem vX : EE.fns 173 = some mL := by kernel_rfl
def jA : CF := ({ b := _ } : V (α := CF) ⟨36,Q [R [z 2 false],Q [R [j 3 0],F 0 (Q [Q [R [m 6 3,B 7 .lss 6 3],U 7 (.exit 0)],.block 1 (Q [Q [R [m 10 0,m 11 3,C 12 193 [11],b 13 .eql 10 12],J 13 (Q [R [z 2 true],.ret])],R [j 4 0],F 2 (Q [Q [R [m 14 4,B 15 .lss 14 3],U 15 (.exit 2)],.block 3 (Q [R [m 18 3,m 19 4,b 20 .neq 18 19,m 21 20,G 21 (m 22 0),G 21 (m 23 3),G 21 (m 24 4),G 21 (C 25 194 [23,24]),G 21 (b 26 .eql 22 25),a 27 21 26],J 27 (Q [R [z 2 true],.ret])]),R [m 16 4,B 17 .add 16 1,m 4 17]])]),R [m 8 3,B 9 .add 8 1,m 3 9]])],Q [R [j 5 0],F 4 (Q [Q [R [m 28 5,B 29 .lss 28 6],U 29 (.exit 4)],.block 5 (Q [R [m 32 0,m 33 5,C 34 177 [33],b 35 .eql 32 34],J 35 (Q [R [z 2 true],.ret])]),R [m 30 5,B 31 .add 30 1,m 5 31]])],R [z 2 false],.ret],[.t 2]⟩).b
theorem yZ : EE.fns 174 = some jA := by kernel_rfl
def mI : CF := ({ b := _ } : V (α := CF) ⟨26,Q [R [M 2 0,N 4 y3,z 5 false],Q [R [f 8 6 2,l 9 8,B 10 .geq 9 1000000],J 10 (Q [R [L 11 16 2,s 16 4 11,z 5 false],.ret])],R [L 13 16 2,m 14 1,C 15 186 [13,14],m 12 15,e 16 12 0,e 17 12 1,N 6 y3,s 16 6 16,m 7 17],Q [R [m 18 7,u 19 18],J 19 (Q [R [L 20 16 2,s 16 4 20,z 5 false],.ret])],R [f 21 6 6,l 22 21,B 23 .add 22 1,f 24 6 6,s 1 24 23],R [L 25 16 6,s 16 4 25,z 5 true],.ret],[.cell 4 16 true,.t 5]⟩).b
theorem wF : EE.fns 175 = some mI := by kernel_rfl
def fZ : CF := ({ b := _ } : V (α := CF) ⟨30,Q [R [c 6 (.string ⟨#[]⟩)],Q [R [m 7 0,C 8 61 [7],u 9 8,m 10 9,H 10 (m 11 1),H 10 (C 12 195 [11]),o 13 10 12,m 14 13,H 14 (m 15 2),H 14 (C 16 195 [15]),o 17 14 16],J 17 (Q [R [c 6 (.string ⟨#[]⟩)],.ret])],R [m 18 0,m 19 2,k 20 (.mkO 3 1 y0 [(0,i 1),(1,.t 18),(2,.t 19)]),C 21 158 [20],m 22 0,C 23 177 [22],m 24 1,k 25 (.mkO 2 1 y0 [(0,i 8),(1,.t 24)]),C 26 158 [25],C 27 153 [23,26],k 28 (.mkO 2 1 y4 [(0,.t 21),(1,.t 27)]),C 29 154 [28],m 6 29],.ret],[.t 6]⟩).b
theorem sY : EE.fns 176 = some fZ := by kernel_rfl
def gY : CF := ({ b := _ } : V (α := CF) ⟨13,Q [R [j 2 0],Q [R [m 3 0,C 4 61 [3],u 5 4],J 5 (Q [R [j 2 0],.ret])],Q [R [m 6 0,B 7 .lss 6 3],J 7 (Q [R [m 8 0,k 9 (.bin .add (i 1) (.t 8)),m 2 9],.ret])],R [m 10 0,k 11 (.bin .add (i 11) (.t 10)),B 12 .sub 11 3,m 2 12],.ret],[.t 2]⟩).b
theorem sB : EE.fns 177 = some gY := by kernel_rfl
def mT : CF := ({ b := _ } : V (α := CF) ⟨88,Q [R [M 2 0,M 3 1,N 4 y3,z 5 false],R [f 13 11 2,l 14 13,f 15 2 3,l 16 15,A 17 8 14 16,L 18 8 17,N 6 y9,s 8 6 18],Q [R [f 19 2 6,l 20 19,B 21 .lss 20 10],J 21 (Q [R [L 22 16 2,s 16 4 22,z 5 false],.ret])],R [c 7 (.string ⟨#[]⟩)],R [f 23 1 6,l 24 23,m 8 24],Q [R [f 25 4 3,l 26 25,B 27 .gtr 26 0],J 27 (Q [R [f 28 14 2,l 29 28,f 30 4 3,l 31 30,B 32 .sub 31 1,A 33 15 29 32,f 34 14 33,l 35 34,m 7 35],R [f 36 14 2,l 37 36,f 38 4 3,l 39 38,B 40 .sub 39 1,A 41 15 37 40,f 42 1 41,l 43 42,m 8 43]])],Q [R [m 44 8,C 45 61 [44],u 46 45],J 46 (Q [R [L 47 16 2,s 16 4 47,z 5 false],.ret])],R [f 48 1 6,l 49 48,f 50 5 2,l 51 50,f 52 6 2,l 53 52,k 54 (.build y1 [(0,(1,.t 49)),(1,(1,.t 51)),(2,(1,.t 53))]),N 9 y1,s 3 9 54],R [f 55 6 2,l 56 55,m 10 56],D [L 58 16 2,f 59 7 6,p [1] (l 60 59),f 61 3 6,p [3] (l 62 61),L 63 3 9,f 64 3 3,p [6] (l 65 64),f 66 5 3,p [8] (L 67 3 66),m 68 10,m 69 7,p [2,1,4,3,5,7,6,9,8,10,11] (C 70 191 [60,62,63,65,67,68,69]),p [0,12,2,1,4,3,5,7,6,9,8,10,11] (C 71 175 [58,70]),p [13,0,12,2,1,4,3,5,7,6,9,8,10,11] (m 57 71),p [14,13,0,12,2,1,4,3,5,7,6,9,8,10,11] (e 72 57 0),p [14,13,0,12,2,1,4,3,5,7,6,9,8,10,11] (e 73 57 1),N 11 y3,p [17,15,14,13,0,12,2,1,4,3,5,7,6,9,8,10,11] (s 16 11 72),p [16,14,13,0,12,2,1,4,3,5,7,6,9,8,10,11,18,17,15] (m 12 73)],Q [R [m 74 12,u 75 74],J 75 (Q [R [L 76 16 2,s 16 4 76,z 5 false],.ret])],R [f 77 10 11,l 78 77,f 79 1 3,l 80 79,m 81 10,f 82 3 6,l 83 82,m 84 8,k 85 (.build y12 [(0,(1,.c (.bool true))),(1,(1,.t 81)),(2,(1,.t 83)),(3,(1,.t 84))]),A 86 4 78 80,s 4 86 85],R [L 87 16 11,s 16 4 87,z 5 true],.ret],[.cell 4 16 true,.t 5]⟩).b
theorem Abj : EE.fns 178 = some mT := by kernel_rfl
def hZ : CF := ({ b := _ } : V (α := CF) ⟨52,Q [R [M 2 0,M 3 1,N 4 y3,z 5 false],D [f 9 0 2,p [0] (L 10 5 9),f 11 1 3,p [2] (l 12 11),f 13 5 2,p [4] (l 14 13),f 15 6 2,p [6] (l 16 15),f 17 7 2,p [8] (l 18 17),f 19 2 3,p [10] (l 20 19),p [9,8,11,10] (A 21 1 18 20),p [12,9,8,11,10] (l 22 21),p [1,0,3,2,5,4,7,6,13,12,9,8,11,10] (C 23 196 [10,12,14,16,22]),N 6 y15,p [15,14,1,0,3,2,5,4,7,6,13,12,9,8,11,10] (s 13 6 23)],Q [R [f 24 0 6,l 25 24,B 26 .neq 25 0,m 27 26,H 27 (f 28 13 2),H 27 (l 29 28),H 27 (h 30 29),H 27 (B 31 .geq 30 40),o 32 27 31],J 32 (Q [R [L 33 16 2,s 16 4 33,z 5 false],.ret])],R [L 35 16 2,f 36 1 6,l 37 36,C 38 175 [35,37],m 34 38,e 39 34 0,e 40 34 1,N 7 y3,s 16 7 39,m 8 40],Q [R [m 41 8,u 42 41],J 42 (Q [R [L 43 16 2,s 16 4 43,z 5 false],.ret])],R [f 44 13 7,l 45 44,f 46 2 6,L 47 11 46,k 48 (.mkV 1 11 y13 [(0,.t 47)]),k 49 (.app 11 88 (.t 45) (.t 48)),f 50 13 7,s 1 50 49],R [L 51 16 7,s 16 4 51,z 5 true],.ret],[.cell 4 16 true,.t 5]⟩).b
theorem wN : EE.fns 179 = some hZ := by kernel_rfl
def gH : CF := ({ b := _ } : V (α := CF) ⟨60,Q [R [M 2 0,M 3 1,N 4 y3,z 5 false],R [f 9 10 2,l 10 9,f 11 1 3,l 12 11,A 13 4 10 12,L 14 4 13,N 6 y12,s 4 6 14],D [f 16 1 3,p [0] (l 17 16),f 18 3 6,p [2] (l 19 18),f 20 2 6,p [4] (l 21 20),f 22 1 6,p [6] (l 23 22),f 24 7 2,p [8] (l 25 24),f 26 2 3,p [10] (l 27 26),p [9,8,11,10] (A 28 1 25 27),p [12,9,8,11,10] (l 29 28),p [1,0,3,2,5,4,7,6,13,12,9,8,11,10] (C 30 197 [17,19,21,23,29]),p [14,1,0,3,2,5,4,7,6,13,12,9,8,11,10] (m 15 30),p [15,14,1,0,3,2,5,4,7,6,13,12,9,8,11,10] (e 31 15 0),p [15,14,1,0,3,2,5,4,7,6,13,12,9,8,11,10] (e 32 15 1),N 7 y9,p [18,16,15,14,1,0,3,2,5,4,7,6,13,12,9,8,11,10] (s 8 7 31),p [17,15,14,1,0,3,2,5,4,7,6,13,12,9,8,11,10,19,18,16] (m 8 32)],Q [R [f 33 0 6,l 34 33,u 35 34,m 36 35,H 36 (m 37 8),H 36 (u 38 37),o 39 36 38,m 40 39,H 40 (f 41 11 2),H 40 (l 42 41),H 40 (h 43 42),H 40 (B 44 .geq 43 30),o 45 40 44],J 45 (Q [R [L 46 16 2,s 16 4 46,z 5 false],.ret])],R [f 47 11 2,l 48 47,L 49 8 7,k 50 (.mkV 1 8 y9 [(0,.t 49)]),k 51 (.app 8 72 (.t 48) (.t 50)),f 52 11 2,s 1 52 51],R [f 53 10 2,l 54 53,f 55 1 3,l 56 55,k 57 (.build y12 []),A 58 4 54 56,s 4 58 57],R [L 59 16 2,s 16 4 59,z 5 true],.ret],[.cell 4 16 true,.t 5]⟩).b
theorem Abe : EE.fns 180 = some gH := by kernel_rfl
def kL : CF := ({ b := _ } : V (α := CF) ⟨23,Q [R [M 3 0,M 4 1,c 6 (.string ⟨#[]⟩)],Q [R [L 7 8 3,C 8 59 [7],u 9 8],J 9 (Q [R [c 6 (.string ⟨#[]⟩)],.ret])],D [f 10 2 3,p [0] (l 11 10),m 12 2,p [1,0,2] (k 13 (.mkO 3 1 y0 [(0,i 4),(1,.t 11),(2,.t 12)])),p [3,1,0,2] (C 14 158 [13]),f 15 7 3,p [5] (l 16 15),L 17 3 4,f 18 3 3,p [8] (l 19 18),p [7,9,8,4,3,1,0,2] (C 20 192 [17,19]),p [4,3,1,0,2,6,5,10,7,9,8] (k 21 (.mkO 3 1 y4 [(0,.t 14),(1,.t 16),(2,.t 20)])),p [11,4,3,1,0,2,6,5,10,7,9,8] (C 22 154 [21]),p [12,11,4,3,1,0,2,6,5,10,7,9,8] (m 6 22)],.ret],[.t 6]⟩).b
theorem uG : EE.fns 181 = some kL := by kernel_rfl
def nG : CF := ({ b := _ } : V (α := CF) ⟨58,Q [R [M 2 0,M 3 1,N 4 y3,z 5 false],D [f 10 0 2,p [0] (L 11 5 10),f 12 1 3,p [2] (l 13 12),f 14 5 2,p [4] (l 15 14),f 16 12 2,p [6] (l 17 16),f 18 1 3,p [8] (l 19 18),p [7,6,9,8] (A 20 2 17 19),p [10,7,6,9,8] (L 21 2 20),f 22 7 2,p [12] (l 23 22),f 24 2 3,p [14] (l 25 24),p [13,12,15,14] (A 26 1 23 25),p [16,13,12,15,14] (l 27 26),p [1,0,3,2,5,4,11,10,7,6,9,8,17,16,13,12,15,14] (C 28 198 [11,13,15,21,27]),p [18,1,0,3,2,5,4,11,10,7,6,9,8,17,16,13,12,15,14] (m 9 28),p [19,18,1,0,3,2,5,4,11,10,7,6,9,8,17,16,13,12,15,14] (e 29 9 0),p [19,18,1,0,3,2,5,4,11,10,7,6,9,8,17,16,13,12,15,14] (e 30 9 1),p [19,18,1,0,3,2,5,4,11,10,7,6,9,8,17,16,13,12,15,14] (e 31 9 2),N 6 y8,k 7 (.newD 7 y7),p [23,20,19,18,1,0,3,2,5,4,11,10,7,6,9,8,17,16,13,12,15,14,24] (s 2 6 29),p [24,21,19,18,1,0,3,2,5,4,11,10,7,6,9,8,17,16,13,12,15,14,25,23,20] (s 15 7 30),p [22,19,18,1,0,3,2,5,4,11,10,7,6,9,8,17,16,13,12,15,14,26,24,21,25,23,20] (m 8 31)],Q [R [m 32 8,B 33 .neq 32 0,m 34 33,H 34 (f 35 14 2),H 34 (l 36 35),H 34 (h 37 36),H 34 (B 38 .geq 37 40),o 39 34 38],J 39 (Q [R [L 40 16 2,s 16 4 40,z 5 false],.ret])],R [f 41 15 2,l 42 41,h 43 42,f 44 13 7,s 1 44 43],R [f 45 12 2,l 46 45,f 47 1 3,l 48 47,L 49 2 6,A 50 2 46 48,s 2 50 49],R [f 51 14 2,l 52 51,L 53 15 7,k 54 (.mkV 1 15 y7 [(0,.t 53)]),k 55 (.app 15 160 (.t 52) (.t 54)),f 56 14 2,s 1 56 55],R [L 57 16 2,s 16 4 57,z 5 true],.ret],[.cell 4 16 true,.t 5]⟩).b
theorem yW : EE.fns 182 = some nG := by kernel_rfl
def lN : CF := ({ b := _ } : V (α := CF) ⟨18,Q [R [z 4 false],Q [R [j 5 0],F 0 (Q [Q [R [m 6 5,m 7 0,h 8 7,b 9 .lss 6 8],U 9 (.exit 0)],.block 1 (Q [R [m 12 0,m 13 5,A 14 1 12 13,l 15 14,m 16 1,b 17 .eql 15 16],J 17 (Q [R [z 4 true],.ret])]),R [m 10 5,B 11 .add 10 1,m 5 11]])],R [z 4 false],.ret],[.t 4]⟩).b
theorem Abl : EE.fns 183 = some lN := by kernel_rfl
def mY : CF := ({ b := _ } : V (α := CF) ⟨32,Q [R [M 2 0,N 4 y16],Q [R [L 5 2 2,C 6 56 [5],u 7 6],J 7 (Q [R [k 8 (.build y16 []),s 2 4 8],.ret])],R [L 9 2 2,C 10 199 [9],s 2 2 10],Q [R [m 11 1,E 12 48 [.t 11,i 1,i 1000000],m 13 12,G 13 (f 14 1 2),G 13 (l 15 14),G 13 (m 16 1),G 13 (C 17 183 [15,16]),G 13 (u 18 17),a 19 13 18,m 20 19,G 20 (f 21 1 2),G 20 (l 22 21),G 20 (h 23 22),G 20 (B 24 .lss 23 40),a 25 20 24],J 25 (R [f 26 1 2,l 27 26,m 28 1,C 29 200 [27,28],f 30 1 2,s 1 30 29])],R [L 31 2 2,s 2 4 31],.ret],[.cell 4 2 true]⟩).b
theorem uE : EE.fns 184 = some mY := by kernel_rfl
def jO : CF := ({ b := _ } : V (α := CF) ⟨24,Q [R [M 2 0,z 4 false],Q [R [L 7 2 2,C 8 56 [7],u 9 8,m 10 9,H 10 (m 11 1),H 10 (C 12 57 [11]),H 10 (u 13 12),o 14 10 13],J 14 (Q [R [z 4 false],.ret])],R [L 16 2 2,C 17 201 [16],m 15 17,e 18 15 0,e 19 15 1,m 5 18,m 6 19],R [m 20 5,m 21 6,m 22 1,C 23 202 [20,21,22],m 4 23],.ret],[.t 4]⟩).b
theorem sX : EE.fns 185 = some jO := by kernel_rfl
def jK : CF := ({ b := _ } : V (α := CF) ⟨27,Q [R [M 2 0,N 4 y3,z 5 false],Q [R [m 6 1,k 7 (.bin .eql (.t 6) (.c (.string ⟨#[]⟩))),m 8 7,H 8 (f 9 7 2),H 8 (l 10 9),H 8 (h 11 10),H 8 (B 12 .geq 11 50),o 13 8 12],J 13 (Q [R [L 14 16 2,s 16 4 14,z 5 false],.ret])],R [f 15 7 2,l 16 15,m 17 1,k 18 (.mkV 1 1 y4 [(0,.t 17)]),k 19 (.app 1 16 (.t 16) (.t 18)),f 20 7 2,s 1 20 19],R [f 21 8 2,L 22 2 21,m 23 1,C 24 203 [22,23],f 25 8 2,s 2 25 24],R [L 26 16 2,s 16 4 26,z 5 true],.ret],[.cell 4 16 true,.t 5]⟩).b
theorem sD : EE.fns 186 = some jK := by kernel_rfl
def kJ : CF := ({ b := _ } : V (α := CF) ⟨19,Q [R [N 4 y8],Q [R [m 5 0,E 6 48 [.t 5,i 0,i 100000],u 7 6,m 8 7,H 8 (m 9 1),H 8 (E 10 48 [.t 9,i 0,i 20]),H 8 (u 11 10),o 12 8 11],J 12 (Q [R [C 13 164 [],s 2 4 13],.ret])],R [m 14 0,m 15 1,k 16 (.bin .mul (i 2) (.t 15)),b 17 .add 14 16,k 18 (.build y8 [(0,(1,.t 17))]),s 2 4 18],.ret],[.cell 4 2 true]⟩).b
theorem Aa9 : EE.fns 187 = some kJ := by kernel_rfl
def gL : CF := ({ b := _ } : V (α := CF) ⟨70,Q [R [M 2 0,c 4 (.slice .none 0 0)],R [k 9 (.mkO 0 1 y0 []),m 5 9],Q [R [j 6 0],F 0 (Q [Q [R [m 10 6,B 11 .lss 10 3],U 11 (.exit 0)],.block 1 (R [m 14 5,k 15 (.mkV 1 1 y0 [(0,i 3)]),k 16 (.app 1 8 (.t 14) (.t 15)),m 5 16]),R [m 12 6,B 13 .add 12 1,m 6 13]])],R [m 17 5,m 18 1,A 19 1 17 18,S 1 19 (i 0)],Q [R [j 7 0],F 2 (Q [Q [R [m 20 7,B 21 .lss 20 3],U 21 (.exit 2)],.block 3 (Q [R [j 8 0],F 4 (Q [Q [R [m 24 8,f 25 2 2,l 26 25,h 27 26,b 28 .lss 24 27],U 28 (.exit 4)],.block 5 (Q [D [m 31 5,f 32 2 2,p [1] (l 33 32),m 34 8,p [2,1,3] (A 35 2 33 34),p [4,2,1,3] (f 36 1 35),p [5,4,2,1,3] (l 37 36),p [0,6,5,4,2,1,3] (A 38 1 31 37),p [7,0,6,5,4,2,1,3] (l 39 38),p [8,7,0,6,5,4,2,1,3] (B 40 .add 39 1),m 41 5,f 42 2 2,p [11] (l 43 42),m 44 8,p [12,11,13] (A 45 2 43 44),p [14,12,11,13] (f 46 0 45),p [15,14,12,11,13] (l 47 46),p [10,16,15,14,12,11,13] (A 48 1 41 47),p [17,10,16,15,14,12,11,13] (l 49 48),p [9,8,7,0,6,5,4,2,1,3,18,17,10,16,15,14,12,11,13] (b 50 .lss 40 49)],J 50 (D [m 51 5,f 52 2 2,p [1] (l 53 52),m 54 8,p [2,1,3] (A 55 2 53 54),p [4,2,1,3] (f 56 0 55),p [5,4,2,1,3] (l 57 56),m 58 5,f 59 2 2,p [8] (l 60 59),m 61 8,p [9,8,10] (A 62 2 60 61),p [11,9,8,10] (f 63 1 62),p [12,11,9,8,10] (l 64 63),p [7,13,12,11,9,8,10] (A 65 1 58 64),p [14,7,13,12,11,9,8,10] (l 66 65),p [15,14,7,13,12,11,9,8,10] (B 67 .add 66 1),p [0,6,5,4,2,1,3,7,8,9,10,11,12,13,14,15,16] (A 68 1 51 57),p [17,0,6,5,4,2,1,3,7,8,9,10,11,12,13,14,15,16] (s 1 68 67)])]),R [m 29 8,B 30 .add 29 1,m 8 30]])]),R [m 22 7,B 23 .add 22 1,m 7 23]])],R [m 69 5,m 4 69],.ret],[.t 4]⟩).b
theorem rO : EE.fns 188 = some gL := by kernel_rfl
def fW : CF := ({ b := _ } : V (α := CF) ⟨15,Q [R [M 1 0,c 2 (.slice .none 0 0)],Q [R [L 5 2 1,C 6 56 [5],u 7 6],J 7 (Q [R [k 8 (.mkO 0 1 y0 []),m 2 8],.ret])],R [L 10 2 1,C 11 201 [10],m 9 11,e 12 9 0,e 13 9 1,m 3 12,m 4 13],R [m 14 4,m 2 14],.ret],[.t 2]⟩).b
theorem Aa1 : EE.fns 189 = some fW := by kernel_rfl
def dQ : CF := ({ b := _ } : V (α := CF) ⟨53,Q [R [c 2 (.slice .none 0 0),z 3 false],R [k 11 (.mkO 0 1 y4 []),m 4 11],Q [R [m 12 0,C 13 57 [12],u 14 13,m 15 14,H 15 (m 16 0),H 15 (k 17 (.idx (.t 16) (i 0))),H 15 (k 18 (.bin .neq (.t 17) (.c (.int .u8 108)))),o 19 15 18],J 19 (Q [R [m 20 4,m 2 20,z 3 false],.ret])],R [m 22 0,k 23 (.slcS (.t 22) (.some (i 1)) .none),C 24 140 [23],m 21 24,e 25 21 0,e 26 21 1,m 5 25,m 6 26],R [m 27 6,k 28 (.bin .add (i 1) (.t 27)),m 7 28],Q [R [j 8 0],F 0 (Q [Q [R [m 29 8,m 30 5,b 31 .lss 29 30],U 31 (.exit 0)],.block 1 (Q [R [m 35 0,m 36 7,E 37 99 [.t 35,.t 36,i 8],m 34 37,e 38 34 0,e 39 34 1,m 9 38,m 10 39],R [m 40 4,m 41 0,m 42 7,m 43 7,m 44 9,b 45 .add 43 44,k 46 (.slcS (.t 41) (.some (.t 42)) (.some (.t 45))),k 47 (.mkV 1 1 y4 [(0,.t 46)]),k 48 (.app 1 16 (.t 40) (.t 47)),m 4 48],R [m 49 7,m 50 9,b 51 .add 49 50,m 7 51]]),R [m 32 8,B 33 .add 32 1,m 8 33]])],R [m 52 4,m 2 52,z 3 true],.ret],[.t 2,.t 3]⟩).b
theorem zB : EE.fns 190 = some dQ := by kernel_rfl
def iN : CF := ({ b := _ } : V (α := CF) ⟨31,Q [R [M 9 2,M 11 4,c 14 (.string ⟨#[]⟩)],Q [R [m 15 6,k 16 (.bin .eql (.t 15) (.c (.string ⟨#[]⟩)))],J 16 (R [E 17 150 [.c (.string ⟨#[]⟩)],m 6 17])],D [m 18 3,m 19 5,p [0,1] (k 20 (.mkO 3 1 y0 [(0,i 2),(1,.t 18),(2,.t 19)])),p [2,0,1] (C 21 158 [20]),m 22 0,L 23 3 9,m 24 1,p [5,6,3,2,0,1] (C 25 192 [23,24]),L 26 3 11,p [8,7,5,6,3,2,0,1] (C 27 159 [26]),m 28 6,p [3,2,0,1,4,7,5,6,9,8,10] (k 29 (.mkO 5 1 y4 [(0,.t 21),(1,.t 22),(2,.t 25),(3,.t 27),(4,.t 28)])),p [11,3,2,0,1,4,7,5,6,9,8,10] (C 30 154 [29]),p [12,11,3,2,0,1,4,7,5,6,9,8,10] (m 14 30)],.ret],[.t 14]⟩).b
theorem yS : EE.fns 191 = some iN := by kernel_rfl
def gG : CF := ({ b := _ } : V (α := CF) ⟨18,Q [R [M 2 0,c 4 (.string ⟨#[]⟩)],Q [R [L 5 3 2,C 6 102 [5],u 7 6],J 7 (Q [R [c 4 (.string ⟨#[]⟩)],.ret])],R [m 8 1,f 9 0 2,l 10 9,f 11 1 2,l 12 11,f 13 2 2,l 14 13,k 15 (.mkO 4 1 y0 [(0,i 7),(1,.t 10),(2,.t 12),(3,.t 14)]),C 16 158 [15],C 17 153 [8,16],m 4 17],.ret],[.t 4]⟩).b
theorem Abi : EE.fns 192 = some gG := by kernel_rfl
def iS : CF := ({ b := _ } : V (α := CF) ⟨8,Q [R [j 2 0],Q [R [m 3 0,C 4 173 [3],u 5 4],J 5 (Q [R [j 2 0],.ret])],R [m 6 0,k 7 (.bin .add (i 21) (.t 6)),m 2 7],.ret],[.t 2]⟩).b
theorem wT : EE.fns 193 = some iS := by kernel_rfl
def gW : CF := ({ b := _ } : V (α := CF) ⟨18,Q [R [j 4 0],Q [R [m 5 0,C 6 173 [5],u 7 6,m 8 7,H 8 (m 9 1),H 8 (C 10 173 [9]),H 8 (u 11 10),o 12 8 11],J 12 (Q [R [j 4 0],.ret])],R [m 13 0,k 14 (.bin .mul (i 3) (.t 13)),k 15 (.bin .add (i 31) (.t 14)),m 16 1,b 17 .add 15 16,m 4 17],.ret],[.t 4]⟩).b
theorem rX : EE.fns 194 = some gW := by kernel_rfl
def nI : CF := ({ b := _ } : V (α := CF) ⟨9,Q [R [z 2 false],R [m 3 0,B 4 .lss 3 0,m 5 4,H 5 (m 6 0),H 5 (B 7 .gtr 6 1000000),o 8 5 7,m 2 8],.ret],[.t 2]⟩).b
theorem Aas : EE.fns 195 = some nI := by kernel_rfl
def iA : CF := ({ b := _ } : V (α := CF) ⟨111,Q [R [M 5 0,N 10 y15],R [m 16 4,C 17 190 [16],m 15 17,e 18 15 0,e 19 15 1,m 11 18,m 12 19],Q [R [L 20 5 5,C 21 55 [20],u 22 21,m 23 22,H 23 (m 24 1),H 23 (C 25 173 [24]),H 23 (u 26 25),o 27 23 26,m 28 27,H 28 (m 29 2),H 28 (E 30 48 [.t 29,i 0,i 100000]),H 28 (u 31 30),o 32 28 31,m 33 32,H 33 (m 34 3),H 33 (E 35 48 [.t 34,i 101,i 1000000]),H 33 (u 36 35),o 37 33 36,m 38 37,H 38 (m 39 11),H 38 (h 40 39),H 38 (B 41 .eql 40 0),o 42 38 41],J 42 (Q [R [E 43 204 [i 1],s 13 10 43],.ret])],R [m 45 11,k 46 (.iadr 1 (.t 45) (i 0)),l 47 46,C 48 205 [47],m 44 48,e 49 44 0,e 50 44 1,m 13 49,m 14 50],Q [R [m 51 14,u 52 51,m 53 52,H 53 (m 54 13),H 53 (h 55 54),H 53 (B 56 .neq 55 3),o 57 53 56,m 58 57,H 58 (m 59 13),H 58 (k 60 (.iadr 1 (.t 59) (i 2))),H 58 (l 61 60),H 58 (C 62 195 [61]),o 63 58 62],J 63 (Q [R [E 64 204 [i 1],s 13 10 64],.ret])],Q [R [m 65 13,k 66 (.iadr 1 (.t 65) (i 0)),l 67 66,B 68 .eql 67 1,m 69 68,G 69 (m 70 11),G 69 (h 71 70),G 69 (B 72 .eql 71 2),a 73 69 72],J 73 (Q [D [L 74 5 5,m 75 1,m 76 2,m 77 3,m 78 13,p [4] (k 79 (.iadr 1 (.t 78) (i 1))),p [5,4] (l 80 79),m 81 13,p [7] (k 82 (.iadr 1 (.t 81) (i 2))),p [8,7] (l 83 82),m 84 11,p [10] (k 85 (.iadr 1 (.t 84) (i 1))),p [11,10] (l 86 85),p [0,1,2,3,6,5,4,9,8,7,12,11,10] (C 87 206 [74,75,76,77,80,83,86]),p [13,0,1,2,3,6,5,4,9,8,7,12,11,10] (s 13 10 87)],.ret])],Q [R [m 88 13,k 89 (.iadr 1 (.t 88) (i 0)),l 90 89,B 91 .eql 90 2,m 92 91,G 92 (m 93 11),G 92 (h 94 93),G 92 (B 95 .eql 94 5),a 96 92 95],J 96 (Q [D [L 97 5 5,m 98 1,m 99 2,m 100 3,m 101 13,p [4] (k 102 (.iadr 1 (.t 101) (i 1))),p [5,4] (l 103 102),m 104 13,p [7] (k 105 (.iadr 1 (.t 104) (i 2))),p [8,7] (l 106 105),m 107 11,p [10] (k 108 (.slc 1 (.t 107) (.some (i 1)) .none)),p [0,1,2,3,6,5,4,9,8,7,11,10] (C 109 207 [97,98,99,100,103,106,108]),p [12,0,1,2,3,6,5,4,9,8,7,11,10] (s 13 10 109)],.ret])],R [E 110 204 [i 1],s 13 10 110],.ret],[.cell 10 13 true]⟩).b
theorem Ab0 : EE.fns 196 = some iA := by kernel_rfl
def jN : CF := ({ b := _ } : V (α := CF) ⟨95,Q [R [N 10 y9,z 11 false],R [m 19 4,C 20 190 [19],m 18 20,e 21 18 0,e 22 18 1,m 12 21,m 13 22],Q [R [m 23 0,C 24 61 [23],u 25 24,m 26 25,H 26 (m 27 1),H 26 (C 28 61 [27]),H 26 (u 29 28),o 30 26 29,m 31 30,H 31 (m 32 12),H 31 (h 33 32),H 31 (B 34 .neq 33 3),o 35 31 34],J 35 (Q [R [k 36 (.build y9 []),s 8 10 36,z 11 false],.ret])],R [m 38 12,k 39 (.iadr 1 (.t 38) (i 0)),l 40 39,C 41 205 [40],m 37 41,e 42 37 0,e 43 37 1,m 14 42,m 15 43],R [m 45 12,k 46 (.iadr 1 (.t 45) (i 2)),l 47 46,m 48 2,C 49 208 [47,48],m 44 49,e 50 44 0,e 51 44 1,N 16 y6,s 6 16 50,m 17 51],Q [R [m 52 15,u 53 52,m 54 53,H 54 (m 55 17),H 54 (u 56 55),o 57 54 56,m 58 57,H 58 (m 59 14),H 58 (h 60 59),H 58 (B 61 .neq 60 2),o 62 58 61,m 63 62,H 63 (m 64 14),H 63 (k 65 (.iadr 1 (.t 64) (i 0))),H 63 (l 66 65),H 63 (B 67 .neq 66 3),o 68 63 67,m 69 68,H 69 (m 70 14),H 69 (k 71 (.iadr 1 (.t 70) (i 1))),H 69 (l 72 71),H 69 (m 73 3),H 69 (b 74 .neq 72 73),o 75 69 74,m 76 75,H 76 (f 77 2 16),H 76 (l 78 77),H 76 (m 79 3),H 76 (b 80 .neq 78 79),o 81 76 80],J 81 (Q [R [k 82 (.build y9 []),s 8 10 82,z 11 false],.ret])],D [m 83 0,m 84 1,f 85 1 16,p [2] (l 86 85),f 87 0 16,p [4] (l 88 87),f 89 3 16,p [6] (L 90 3 89),m 91 12,p [8] (k 92 (.iadr 1 (.t 91) (i 1))),p [9,8] (l 93 92),p [0,1,3,2,5,4,7,6,10,9,8] (k 94 (.build y9 [(0,(1,.t 83)),(1,(1,.t 84)),(2,(1,.t 86)),(3,(1,.t 88)),(4,(3,.t 90)),(7,(1,.t 93))])),p [11,0,1,3,2,5,4,7,6,10,9,8] (s 8 10 94),p [12,11,0,1,3,2,5,4,7,6,10,9,8] (z 11 true)],.ret],[.cell 10 8 true,.t 11]⟩).b
theorem tJ : EE.fns 197 = some jN := by kernel_rfl
def kA : CF := ({ b := _ } : V (α := CF) ⟨181,Q [R [M 5 0,M 8 3,N 10 y8,N 11 y7,j 12 0],Q [R [L 23 2 8,C 24 60 [23],u 25 24],J 25 (Q [R [k 26 (.build y8 []),k 27 (.build y7 []),s 2 10 26,s 15 11 27,j 12 1],.ret])],R [L 28 2 8,C 29 209 [28],s 2 8 29],R [m 31 4,C 32 190 [31],m 30 32,e 33 30 0,e 34 30 1,m 13 33,m 14 34],Q [R [L 35 5 5,C 36 55 [35],u 37 36,m 38 37,H 38 (m 39 1),H 38 (B 40 .lss 39 0),o 41 38 40,m 42 41,H 42 (m 43 1),H 42 (B 44 .geq 43 3),o 45 42 44,m 46 45,H 46 (m 47 2),H 46 (E 48 48 [.t 47,i 0,i 100000]),H 46 (u 49 48),o 50 46 49,m 51 50,H 51 (m 52 13),H 51 (h 53 52),H 51 (B 54 .neq 53 3),o 55 51 54],J 55 (Q [R [L 56 2 8,k 57 (.build y7 []),s 2 10 56,s 15 11 57,j 12 1],.ret])],R [m 59 13,k 60 (.iadr 1 (.t 59) (i 0)),l 61 60,C 62 205 [61],m 58 62,e 63 58 0,e 64 58 1,m 15 63,m 16 64],D [m 66 13,p [0] (k 67 (.iadr 1 (.t 66) (i 1))),p [1,0] (l 68 67),m 69 1,p [3] (k 70 (.bin .add (i 3) (.t 69))),p [4,3] (C 71 177 [70]),p [2,1,0,5,4,3] (C 72 210 [68,71]),p [6,2,1,0,5,4,3] (m 65 72),p [7,6,2,1,0,5,4,3] (e 73 65 0),p [7,6,2,1,0,5,4,3] (e 74 65 1),N 17 y5,p [10,8,7,6,2,1,0,5,4,3] (s 8 17 73),p [9,7,6,2,1,0,5,4,3,11,10,8] (m 18 74)],Q [R [m 75 16,u 76 75,m 77 76,H 77 (m 78 18),H 77 (u 79 78),o 80 77 79,m 81 80,H 81 (m 82 15),H 81 (h 83 82),H 81 (B 84 .neq 83 3),o 85 81 84,m 86 85,H 86 (m 87 15),H 86 (k 88 (.iadr 1 (.t 87) (i 0))),H 86 (l 89 88),H 86 (B 90 .neq 89 4),o 91 86 90,m 92 91,H 92 (m 93 15),H 92 (k 94 (.iadr 1 (.t 93) (i 1))),H 92 (l 95 94),H 92 (m 96 1),H 92 (b 97 .neq 95 96),o 98 92 97,m 99 98,H 99 (m 100 15),H 99 (k 101 (.iadr 1 (.t 100) (i 2))),H 99 (l 102 101),H 99 (E 103 48 [.t 102,i 0,i 7]),H 99 (u 104 103),o 105 99 104,m 106 105,H 106 (f 107 1 17),H 106 (l 108 107),H 106 (m 109 1),H 106 (b 110 .neq 108 109),o 111 106 110],J 111 (Q [R [L 112 2 8,k 113 (.build y7 []),s 2 10 112,s 15 11 113,j 12 1],.ret])],D [m 115 13,p [0] (k 116 (.iadr 1 (.t 115) (i 2))),p [1,0] (l 117 116),f 118 2 17,p [3] (l 119 118),p [2,1,0,4,3] (C 120 211 [117,119]),p [5,2,1,0,4,3] (m 114 120),p [6,5,2,1,0,4,3] (e 121 114 0),p [6,5,2,1,0,4,3] (e 122 114 1),N 19 y1,p [9,7,6,5,2,1,0,4,3] (s 3 19 121),p [8,6,5,2,1,0,4,3,10,9,7] (m 20 122)],Q [R [m 123 20,u 124 123,m 125 124,H 125 (f 126 0 19),H 125 (l 127 126),H 125 (f 128 0 17),H 125 (l 129 128),H 125 (b 130 .neq 127 129),o 131 125 130],J 131 (Q [R [L 132 2 8,k 133 (.build y7 []),s 2 10 132,s 15 11 133,j 12 1],.ret])],Q [D [f 134 3 17,p [0] (L 135 3 134),m 136 1,m 137 15,p [3] (k 138 (.iadr 1 (.t 137) (i 2))),p [4,3] (l 139 138),m 140 2,p [1,0,2,5,4,3,6] (C 141 212 [135,136,139,140]),p [7,1,0,2,5,4,3,6] (u 142 141)],J 142 (Q [R [L 143 2 8,k 144 (.build y7 []),s 2 10 143,s 15 11 144,j 12 2],.ret])],R [L 146 2 8,L 147 3 19,m 148 2,f 149 4 5,l 150 149,C 151 213 [146,147,148,150],m 145 151,e 152 145 0,e 153 145 1,N 21 y8,s 2 21 152,m 22 153],Q [R [m 154 22,B 155 .neq 154 0],J 155 (Q [R [L 156 2 8,k 157 (.build y7 []),m 158 22,k 159 (.bin .add (i 10) (.t 158)),s 2 10 156,s 15 11 157,m 12 159],.ret])],D [L 160 2 21,m 161 1,f 162 0 17,p [2] (l 163 162),f 164 2 17,p [4] (l 165 164),m 166 15,p [6] (k 167 (.iadr 1 (.t 166) (i 2))),p [7,6] (l 168 167),m 169 2,L 170 3 19,f 171 3 17,p [11] (L 172 3 171),f 173 6 17,p [13] (l 174 173),f 175 7 17,p [15] (l 176 175),m 177 13,p [17] (k 178 (.iadr 1 (.t 177) (i 1))),p [18,17] (l 179 178),p [1,3,2,5,4,8,7,6,9,10,12,11,14,13,16,15,19,18,17] (k 180 (.build y7 [(0,(1,.t 161)),(1,(1,.t 163)),(2,(1,.t 165)),(3,(1,.t 168)),(4,(1,.t 169)),(5,(3,.t 170)),(8,(3,.t 172)),(11,(1,.t 174)),(12,(1,.t 176)),(14,(1,.t 179))])),p [0] (s 2 10 160),p [20,1,3,2,5,4,8,7,6,9,10,12,11,14,13,16,15,19,18,17,21,0] (s 15 11 180),p [22,20,1,3,2,5,4,8,7,6,9,10,12,11,14,13,16,15,19,18,17,21,0] (j 12 0)],.ret],[.cell 10 2 true,.cell 11 15 true,.t 12]⟩).b
theorem sU : EE.fns 198 = some kA := by kernel_rfl
def kD : CF := ({ b := _ } : V (α := CF) ⟨12,Q [R [M 1 0,N 2 y16],D [k 3 (.mkV 0 1 y4 []),f 4 0 1,p [1] (l 5 4),p [0,2,1] (k 6 (.appP 1 16 3 (.t 5))),k 7 (.mkV 0 1 y0 []),f 8 1 1,p [5] (l 9 8),p [4,6,5,3,0,2,1] (k 10 (.appP 1 8 7 (.t 9))),p [3,0,2,1,7,4,6,5] (k 11 (.build y16 [(0,(1,.t 6)),(1,(1,.t 10))])),p [8,3,0,2,1,7,4,6,5] (s 2 2 11)],.ret],[.cell 2 2 true]⟩).b
theorem Abz : EE.fns 199 = some kD := by kernel_rfl
def iJ : CF := ({ b := _ } : V (α := CF) ⟨47,Q [R [c 4 (.slice .none 0 0)],Q [R [m 8 0,m 9 1,C 10 183 [8,9]],J 10 (Q [R [m 11 0,m 4 11],.ret])],R [k 12 (.mkO 0 1 y0 []),m 5 12],R [z 6 false],Q [R [j 7 0],F 0 (Q [Q [R [m 13 7,m 14 0,h 15 14,b 16 .lss 13 15],U 16 (.exit 0)],.block 1 (Q [Q [R [m 19 6,u 20 19,m 21 20,G 21 (m 22 1),G 21 (m 23 0),G 21 (m 24 7),G 21 (A 25 1 23 24),G 21 (l 26 25),G 21 (b 27 .lss 22 26),a 28 21 27],J 28 (Q [R [m 29 5,m 30 1,k 31 (.mkV 1 1 y0 [(0,.t 30)]),k 32 (.app 1 8 (.t 29) (.t 31)),m 5 32],R [z 6 true]])],R [m 33 5,m 34 0,m 35 7,A 36 1 34 35,l 37 36,k 38 (.mkV 1 1 y0 [(0,.t 37)]),k 39 (.app 1 8 (.t 33) (.t 38)),m 5 39]]),R [m 17 7,B 18 .add 17 1,m 7 18]])],Q [R [m 40 6,u 41 40],J 41 (R [m 42 5,m 43 1,k 44 (.mkV 1 1 y0 [(0,.t 43)]),k 45 (.app 1 8 (.t 42) (.t 44)),m 5 45])],R [m 46 5,m 4 46],.ret],[.t 4]⟩).b
theorem xW : EE.fns 200 = some iJ := by kernel_rfl
def gT : CF := ({ b := _ } : V (α := CF) ⟨116,Q [R [M 1 0,c 2 (.slice .none 0 0),c 3 (.slice .none 0 0)],R [k 17 (.mkO 0 1 y4 []),f 18 0 1,l 19 18,k 20 (.app 1 16 (.t 17) (.t 19)),m 4 20],R [k 21 (.mkO 0 1 y0 []),f 22 1 1,l 23 22,k 24 (.app 1 8 (.t 21) (.t 23)),m 5 24],F 0 (.block 1 (Q [R [m 25 4,h 26 25,m 6 26],R [m 27 5,h 28 27,m 7 28],Q [R [j 8 0],F 2 (Q [Q [R [m 29 8,m 30 4,h 31 30,b 32 .lss 29 31],U 32 (.exit 2)],.block 3 (Q [R [m 36 4,m 37 8,A 38 1 36 37,l 39 38,C 40 214 [39],m 35 40,e 41 35 0,e 42 35 1,m 9 41,m 10 42],Q [R [m 43 10],J 43 (R [m 44 5,m 45 9,C 46 200 [44,45],m 5 46])],R [m 48 4,m 49 8,A 50 1 48 49,l 51 50,C 52 190 [51],m 47 52,e 53 47 0,e 54 47 1,m 11 53,m 12 54],Q [R [j 13 0],F 4 (Q [Q [R [m 55 13,m 56 11,h 57 56,b 58 .lss 55 57],U 58 (.exit 4)],.block 5 (Q [R [m 61 4,m 62 11,m 63 13,A 64 1 62 63,l 65 64,C 66 98 [61,65],u 67 66],J 67 (R [m 68 4,m 69 11,m 70 13,A 71 1 69 70,l 72 71,k 73 (.mkV 1 1 y4 [(0,.t 72)]),k 74 (.app 1 16 (.t 68) (.t 73)),m 4 74])]),R [m 59 13,B 60 .add 59 1,m 13 60]])],R [j 14 0],F 6 (Q [Q [R [m 75 14,m 76 5,h 77 76,b 78 .lss 75 77],U 78 (.exit 6)],.block 7 (Q [D [m 82 4,m 83 8,p [0,1] (A 84 1 82 83),p [2,0,1] (l 85 84),m 86 5,m 87 14,p [4,5] (A 88 1 86 87),p [6,4,5] (l 89 88),p [3,2,0,1,7,6,4,5] (C 90 215 [85,89]),p [8,3,2,0,1,7,6,4,5] (m 81 90),p [9,8,3,2,0,1,7,6,4,5] (e 91 81 0),p [9,8,3,2,0,1,7,6,4,5] (e 92 81 1),p [10,9,8,3,2,0,1,7,6,4,5] (m 15 91),p [11,9,8,3,2,0,1,7,6,4,5,12,10] (m 16 92)],R [m 93 16,m 94 93,G 94 (m 95 4),G 94 (m 96 15),G 94 (C 97 98 [95,96]),G 94 (u 98 97),a 99 94 98],J 99 (R [m 100 4,m 101 15,k 102 (.mkV 1 1 y4 [(0,.t 101)]),k 103 (.app 1 16 (.t 100) (.t 102)),m 4 103])]),R [m 79 14,B 80 .add 79 1,m 14 80]])]),R [m 33 8,B 34 .add 33 1,m 8 34]])],R [m 104 4,h 105 104,m 106 6,b 107 .eql 105 106,m 108 107,G 108 (m 109 5),G 108 (h 110 109),G 108 (m 111 7),G 108 (b 112 .eql 110 111),a 113 108 112],J 113 (Q [R [m 114 4,m 115 5,m 2 114,m 3 115],.ret])]))],[.t 2,.t 3]⟩).b
theorem wX : EE.fns 201 = some gT := by kernel_rfl
def iF : CF := ({ b := _ } : V (α := CF) ⟨69,Q [R [z 6 false],Q [R [m 14 0,m 15 2,C 16 98 [14,15],m 17 16,H 17 (m 18 2),H 17 (k 19 (.idx (.t 18) (i 0))),H 17 (k 20 (.bin .eql (.t 19) (.c (.int .u8 97)))),o 21 17 20],J 21 (Q [R [z 6 true],.ret])],R [m 23 2,C 24 214 [23],m 22 24,e 25 22 0,e 26 22 1,m 7 25,m 8 26],Q [R [m 27 8],J 27 (Q [R [m 28 1,m 29 7,C 30 183 [28,29],m 6 30],.ret])],R [m 32 2,C 33 190 [32],m 31 33,e 34 31 0,e 35 31 1,m 9 34,m 10 35],Q [R [m 36 10],J 36 (Q [Q [R [j 11 0],F 0 (Q [Q [R [m 37 11,m 38 9,h 39 38,b 40 .lss 37 39],U 40 (.exit 0)],.block 1 (Q [R [m 43 0,m 44 1,m 45 9,m 46 11,A 47 1 45 46,l 48 47,C 49 202 [43,44,48],u 50 49],J 50 (Q [R [z 6 false],.ret])]),R [m 41 11,B 42 .add 41 1,m 11 42]])],R [z 6 true],.ret])],R [m 52 2,k 53 (.slcS (.t 52) (.some (i 1)) .none),C 54 140 [53],m 51 54,e 55 51 0,e 56 51 1,m 12 55,m 13 56],R [m 57 1,m 58 12,C 59 183 [57,58],m 60 59,G 60 (m 61 0),G 60 (m 62 1),G 60 (m 63 2),G 60 (m 64 13),G 60 (k 65 (.bin .add (i 1) (.t 64))),G 60 (k 66 (.slcS (.t 63) (.some (.t 65)) .none)),G 60 (C 67 202 [61,62,66]),a 68 60 67,m 6 68],.ret],[.t 6]⟩).b
theorem xU : EE.fns 202 = some iF := by kernel_rfl
def jD : CF := ({ b := _ } : V (α := CF) ⟨27,Q [R [M 2 0,N 4 y16],Q [R [m 5 1,C 6 57 [5],m 7 6,G 7 (f 8 0 2),G 7 (l 9 8),G 7 (m 10 1),G 7 (C 11 98 [9,10]),G 7 (u 12 11),a 13 7 12,m 14 13,G 14 (f 15 0 2),G 14 (l 16 15),G 14 (h 17 16),G 14 (B 18 .lss 17 60),a 19 14 18],J 19 (R [f 20 0 2,l 21 20,m 22 1,k 23 (.mkV 1 1 y4 [(0,.t 22)]),k 24 (.app 1 16 (.t 21) (.t 23)),f 25 0 2,s 1 25 24])],R [L 26 2 2,s 2 4 26],.ret],[.cell 4 2 true]⟩).b
theorem Aaa : EE.fns 203 = some jD := by kernel_rfl
def Nh : CF := ({ b := _ } : V (α := CF) ⟨5,Q [R [N 2 y15],R [m 3 0,k 4 (.build y15 [(0,(1,.t 3))]),s 13 2 4],.ret],[.cell 2 13 true]⟩).b
theorem zN : EE.fns 204 = some Nh := by kernel_rfl
def nB : CF := ({ b := _ } : V (α := CF) ⟨42,Q [R [c 2 (.slice .none 0 0),z 3 false],R [k 10 (.mkO 0 1 y0 []),m 4 10],R [m 12 0,C 13 190 [12],m 11 13,e 14 11 0,e 15 11 1,m 5 14,m 6 15],Q [R [j 7 0],F 0 (Q [Q [R [m 16 7,m 17 5,h 18 17,b 19 .lss 16 18],U 19 (.exit 0)],.block 1 (Q [R [m 23 5,m 24 7,A 25 1 23 24,l 26 25,C 27 216 [26],m 22 27,e 28 22 0,e 29 22 1,m 8 28,m 9 29],R [m 30 6,m 31 30,G 31 (m 32 9),a 33 31 32,m 6 33],R [m 34 4,m 35 8,k 36 (.mkV 1 1 y0 [(0,.t 35)]),k 37 (.app 1 8 (.t 34) (.t 36)),m 4 37]]),R [m 20 7,B 21 .add 20 1,m 7 21]])],Q [R [m 38 6,u 39 38],J 39 (Q [R [k 40 (.mkO 0 1 y0 []),m 2 40,z 3 false],.ret])],R [m 41 4,m 2 41,z 3 true],.ret],[.t 2,.t 3]⟩).b
theorem sF : EE.fns 205 = some nB := by kernel_rfl
def iP : CF := ({ b := _ } : V (α := CF) ⟨101,Q [R [M 7 0,N 14 y15],Q [R [L 23 5 7,m 24 4,C 25 148 [23,24],m 26 1,b 27 .neq 25 26],J 27 (Q [R [E 28 204 [i 1],s 13 14 28],.ret])],R [m 30 6,m 31 4,C 32 177 [31],C 33 215 [30,32],m 29 33,e 34 29 0,e 35 29 1,m 15 34,m 16 35],R [m 37 15,C 38 205 [37],m 36 38,e 39 36 0,e 40 36 1,m 17 39,m 18 40],Q [R [m 41 18,u 42 41,m 43 42,H 43 (m 44 17),H 43 (h 45 44),H 43 (B 46 .neq 45 2),o 47 43 46,m 48 47,H 48 (m 49 17),H 48 (k 50 (.iadr 1 (.t 49) (i 0))),H 48 (l 51 50),H 48 (B 52 .neq 51 8),o 53 48 52],J 53 (Q [R [E 54 204 [i 2],s 13 14 54],.ret])],Q [D [m 55 2,m 56 17,p [1] (k 57 (.iadr 1 (.t 56) (i 1))),p [2,1] (l 58 57),f 59 4 7,p [4] (l 60 59),p [0,3,2,1,5,4] (C 61 217 [55,58,60])],J 61 (Q [R [E 62 204 [i 3],s 13 14 62],.ret])],Q [R [m 63 2,B 64 .add 63 50,B 65 .gtr 64 100000],J 65 (Q [R [E 66 204 [i 4],s 13 14 66],.ret])],R [m 67 2,B 68 .add 67 50,k 69 (.build y1 [(0,(1,i 7)),(1,(1,i 255)),(2,(1,.t 68))]),N 19 y1,s 3 19 69],R [m 70 4,m 71 1,k 72 (.bin .add (i 10) (.t 71)),m 73 3,L 74 3 19,k 75 (.build y5 [(0,(1,.t 70)),(1,(1,.t 72)),(2,(1,.t 73)),(3,(3,.t 74))]),N 20 y5,s 8 20 75],R [m 76 3,m 77 1,k 78 (.bin .add (i 10) (.t 77)),m 79 5,L 80 3 19,k 81 (.build y6 [(0,(1,.t 76)),(1,(1,.t 78)),(2,(1,.t 79)),(3,(3,.t 80))]),N 21 y6,s 6 21 81],R [m 82 1,m 83 4,m 84 4,m 85 1,k 86 (.bin .add (i 10) (.t 85)),m 87 3,L 88 3 19,k 89 (.build y13 [(0,(1,i 1)),(1,(1,.t 82)),(2,(1,.t 83)),(3,(1,.t 84)),(4,(1,.t 86)),(5,(1,.t 87)),(8,(3,.t 88))]),N 22 y13,s 11 22 89],D [m 90 5,L 91 8 20,m 92 1,p [2] (C 93 193 [92]),p [1,3,2] (C 94 138 [91,93]),L 95 6 21,m 96 4,p [6,4,1,3,2] (C 97 177 [96]),p [5,7,6,4,1,3,2] (C 98 219 [95,97]),L 99 11 22,p [0,4,1,3,2,8,5,7,6,9] (C 100 218 [90,94,98,99]),p [10,0,4,1,3,2,8,5,7,6,9] (s 13 14 100)],.ret],[.cell 14 13 true]⟩).b
theorem xR : EE.fns 206 = some iP := by kernel_rfl
def kZ : CF := ({ b := _ } : V (α := CF) ⟨224,Q [R [M 7 0,N 14 y15],R [m 32 6,k 33 (.iadr 1 (.t 32) (i 2)),l 34 33,C 35 220 [34],m 31 35,e 36 31 0,e 37 31 1,N 15 y1,s 3 15 36,m 16 37],D [L 39 5 7,m 40 1,m 41 6,p [2] (k 42 (.iadr 1 (.t 41) (i 0))),p [3,2] (l 43 42),p [0,1,4,3,2] (C 44 221 [39,40,43]),p [5,0,1,4,3,2] (m 38 44),p [6,5,0,1,4,3,2] (e 45 38 0),p [6,5,0,1,4,3,2] (e 46 38 1),p [6,5,0,1,4,3,2] (e 47 38 2),N 17 y5,p [10,7,6,5,0,1,4,3,2] (s 8 17 45),p [8,6,5,0,1,4,3,2,11,10,7] (m 18 46),p [9,6,5,0,1,4,3,2,12,8,11,10,7] (m 19 47)],Q [R [m 48 4,B 49 .lss 48 0,m 50 49,H 50 (m 51 4),H 50 (B 52 .geq 51 3),o 53 50 52,m 54 53,H 54 (m 55 16),H 54 (u 56 55),o 57 54 56,m 58 57,H 58 (m 59 19),H 58 (u 60 59),o 61 58 60],J 61 (Q [R [E 62 204 [i 1],s 13 14 62],.ret])],D [m 64 6,p [0] (k 65 (.iadr 1 (.t 64) (i 1))),p [1,0] (l 66 65),f 67 2 17,p [3] (l 68 67),p [2,1,0,4,3] (C 69 211 [66,68]),p [5,2,1,0,4,3] (m 63 69),p [6,5,2,1,0,4,3] (e 70 63 0),p [6,5,2,1,0,4,3] (e 71 63 1),N 20 y1,p [9,7,6,5,2,1,0,4,3] (s 3 20 70),p [8,6,5,2,1,0,4,3,10,9,7] (m 21 71)],Q [R [m 72 21,u 73 72,m 74 73,H 74 (f 75 0 20),H 74 (l 76 75),H 74 (f 77 0 17),H 74 (l 78 77),H 74 (b 79 .neq 76 78),o 80 74 79],J 80 (Q [R [E 81 204 [i 2],s 13 14 81],.ret])],Q [R [m 82 2,f 83 1 20,l 84 83,f 85 4 7,l 86 85,C 87 217 [82,84,86]],J 87 (Q [R [E 88 204 [i 3],s 13 14 88],.ret])],Q [R [m 89 2,f 90 3 17,f 91 2 90,l 92 91,b 93 .gtr 89 92],J 93 (Q [R [E 94 204 [i 4],s 13 14 94],.ret])],R [k 95 (.mkO 0 1 y0 []),f 96 6 17,l 97 96,k 98 (.app 1 8 (.t 95) (.t 97)),m 22 98],Q [R [m 99 18,B 100 .geq 99 0],J 100 (R [m 101 22,m 102 18,k 103 (.mkV 1 1 y0 [(0,.t 102)]),k 104 (.app 1 8 (.t 101) (.t 103)),m 22 104])],Q [R [m 105 22,h 106 105,B 107 .gtr 106 6],J 107 (Q [R [E 108 204 [i 5],s 13 14 108],.ret])],D [f 109 0 17,p [0] (l 110 109),m 111 4,m 112 3,f 113 3 17,p [4] (L 114 3 113),L 115 3 15,p [5,4,6] (C 116 222 [114,115]),m 117 22,f 118 7 17,p [9] (l 119 118),p [1,0,2,3,7,5,4,6,8,10,9] (k 120 (.build y5 [(0,(1,.t 110)),(1,(1,.t 111)),(2,(1,.t 112)),(3,(3,.t 116)),(6,(1,.t 117)),(7,(1,.t 119))])),N 23 y5,p [12,11,1,0,2,3,7,5,4,6,8,10,9] (s 8 23 120)],R [m 121 1,f 122 0 17,l 123 122,f 124 0 17,l 125 124,f 126 2 17,l 127 126,k 128 (.build y13 [(0,(1,i 2)),(1,(1,.t 121)),(2,(1,.t 123)),(3,(1,.t 125)),(6,(1,.t 127))]),N 24 y13,s 11 24 128],R [m 129 4,k 130 (.bin .add (i 3) (.t 129)),C 131 177 [130],m 25 131],.block 0 (Q [D [m 133 6,p [0] (k 134 (.iadr 1 (.t 133) (i 3))),p [1,0] (l 135 134),E 136 150 [.c (.string ⟨#[]⟩)],p [2,1,0,3] (b 137 .neq 135 136),p [4,2,1,0,3] (m 132 137)],W 132 (Q [R [j 26 0],D [L 139 5 7,m 140 1,m 141 2,L 142 8 17,m 143 4,L 144 3 15,m 145 6,p [6] (k 146 (.iadr 1 (.t 145) (i 3))),p [7,6] (l 147 146),L 148 8 23,p [0,1,2,3,4,5,8,7,6,9] (C 149 223 [139,140,141,142,143,144,147,148]),p [10,0,1,2,3,4,5,8,7,6,9] (m 138 149),p [11,10,0,1,2,3,4,5,8,7,6,9] (e 150 138 0),p [11,10,0,1,2,3,4,5,8,7,6,9] (e 151 138 1),p [12,11,10,0,1,2,3,4,5,8,7,6,9] (s 8 23 150),p [13,11,10,0,1,2,3,4,5,8,7,6,9,14,12] (m 26 151)],Q [R [m 152 26,B 153 .neq 152 0],J 153 (Q [R [m 154 26,C 155 204 [154],s 13 14 155],.ret])],D [m 157 6,p [0] (k 158 (.iadr 1 (.t 157) (i 3))),p [1,0] (l 159 158),f 160 0 17,p [3] (l 161 160),p [4,3] (C 162 177 [161]),p [2,1,0,5,4,3] (C 163 210 [159,162]),p [6,2,1,0,5,4,3] (m 156 163),p [7,6,2,1,0,5,4,3] (e 164 156 0),p [7,6,2,1,0,5,4,3] (e 165 156 1),N 27 y5,p [10,8,7,6,2,1,0,5,4,3] (s 8 27 164),p [9,7,6,2,1,0,5,4,3,11,10,8] (m 28 165)],R [f 166 0 24,S 1 166 (i 4)],R [f 167 0 23,l 168 167,f 169 3 24,s 1 169 168],R [f 170 2 27,l 171 170,f 172 7 24,s 1 172 171]]) (Q [R [f 174 1 7,l 175 174,m 176 4,A 177 1 175 176,l 178 177,m 179 1,b 180 .neq 178 179,m 173 180],J 173 (Q [D [L 181 5 7,m 182 1,f 183 1 7,p [2] (l 184 183),m 185 4,p [3,2,4] (A 186 1 184 185),p [5,3,2,4] (l 187 186),p [0,1,6,5,3,2,4] (C 188 167 [181,182,187]),p [7,0,1,6,5,3,2,4] (m 29 188)],Q [R [m 189 29,B 190 .lss 189 0],J 190 (Q [R [E 191 204 [i 5],s 13 14 191],.ret])],R [m 192 29,k 193 (.bin .add (i 10) (.t 192)),f 194 1 23,s 1 194 193],R [f 195 0 24,S 1 195 (i 3)],R [m 196 1,m 197 29,C 198 194 [196,197],m 25 198]])])]),R [f 199 1 23,l 200 199,f 201 4 24,s 1 201 200],R [m 202 3,f 203 5 24,s 1 203 202],R [f 204 3 23,L 205 3 204,f 206 8 24,s 3 206 205],R [m 207 3,f 208 1 23,l 209 208,m 210 5,f 211 3 23,L 212 3 211,k 213 (.build y6 [(0,(1,.t 207)),(1,(1,.t 209)),(2,(1,.t 210)),(3,(3,.t 212))]),N 30 y6,s 6 30 213],D [m 214 5,L 215 8 23,m 216 25,p [1,2] (C 217 138 [215,216]),L 218 6 30,f 219 2 17,p [5] (l 220 219),p [4,6,5,3,1,2] (C 221 219 [218,220]),L 222 11 24,p [0,3,1,2,7,4,6,5,8] (C 223 218 [214,217,221,222]),p [9,0,3,1,2,7,4,6,5,8] (s 13 14 223)],.ret],[.cell 14 13 true]⟩).b
theorem vO : EE.fns 207 = some kZ := by kernel_rfl
def jE : CF := ({ b := _ } : V (α := CF) ⟨83,Q [R [N 4 y6,z 5 false],R [m 18 0,m 19 1,C 20 215 [18,19],m 17 20,e 21 17 0,e 22 17 1,m 6 21,m 7 22],R [m 24 6,C 25 190 [24],m 23 25,e 26 23 0,e 27 23 1,m 8 26,m 9 27],Q [R [m 28 8,h 29 28,B 30 .neq 29 3],J 30 (Q [R [k 31 (.build y6 []),s 6 4 31,z 5 false],.ret])],R [m 33 8,k 34 (.iadr 1 (.t 33) (i 0)),l 35 34,C 36 214 [35],m 32 36,e 37 32 0,e 38 32 1,m 10 37,m 11 38],R [m 40 8,k 41 (.iadr 1 (.t 40) (i 1)),l 42 41,C 43 205 [42],m 39 43,e 44 39 0,e 45 39 1,m 12 44,m 13 45],R [m 47 8,k 48 (.iadr 1 (.t 47) (i 2)),l 49 48,C 50 220 [49],m 46 50,e 51 46 0,e 52 46 1,N 14 y1,s 3 14 51,m 15 52],Q [R [m 53 11,u 54 53,m 55 54,H 55 (m 56 13),H 55 (u 57 56),o 58 55 57,m 59 58,H 59 (m 60 15),H 59 (u 61 60),o 62 59 61,m 63 62,H 63 (m 64 12),H 63 (h 65 64),H 63 (B 66 .neq 65 2),o 67 63 66],J 67 (Q [R [k 68 (.build y6 []),s 6 4 68,z 5 false],.ret])],D [m 69 10,m 70 12,p [1] (k 71 (.iadr 1 (.t 70) (i 0))),p [2,1] (l 72 71),m 73 12,p [4] (k 74 (.iadr 1 (.t 73) (i 1))),p [5,4] (l 75 74),L 76 3 14,p [0,3,2,1,6,5,4,7] (k 77 (.build y6 [(0,(1,.t 69)),(1,(1,.t 72)),(2,(1,.t 75)),(3,(3,.t 76))])),N 16 y6,p [9,8,0,3,2,1,6,5,4,7] (s 6 16 77)],Q [R [L 78 6 16,C 79 224 [78],u 80 79],J 80 (Q [R [k 81 (.build y6 []),s 6 4 81,z 5 false],.ret])],R [L 82 6 16,s 6 4 82,z 5 true],.ret],[.cell 4 6 true,.t 5]⟩).b
theorem uZ : EE.fns 208 = some jE := by kernel_rfl
def jC : CF := ({ b := _ } : V (α := CF) ⟨10,Q [R [M 1 0,N 2 y8],D [f 3 0 1,p [0] (l 4 3),k 5 (.mkO 0 3 y1 []),f 6 1 1,p [3] (l 7 6),p [2,4,3] (k 8 (.app 3 24 (.t 5) (.t 7))),p [1,0,5,2,4,3] (k 9 (.build y8 [(0,(1,.t 4)),(1,(1,.t 8))])),p [6,1,0,5,2,4,3] (s 2 2 9)],.ret],[.cell 2 2 true]⟩).b
theorem Aai : EE.fns 209 = some jC := by kernel_rfl
def gC : CF := ({ b := _ } : V (α := CF) ⟨111,Q [R [N 4 y5,z 5 false],R [m 22 0,m 23 1,C 24 215 [22,23],m 21 24,e 25 21 0,e 26 21 1,m 6 25,m 7 26],R [m 28 6,C 29 190 [28],m 27 29,e 30 27 0,e 31 27 1,m 8 30,m 9 31],Q [R [m 32 8,h 33 32,B 34 .neq 33 5],J 34 (Q [R [k 35 (.build y5 []),s 8 4 35,z 5 false],.ret])],R [m 37 8,k 38 (.iadr 1 (.t 37) (i 0)),l 39 38,C 40 205 [39],m 36 40,e 41 36 0,e 42 36 1,m 10 41,m 11 42],R [m 44 8,k 45 (.iadr 1 (.t 44) (i 1)),l 46 45,C 47 214 [46],m 43 47,e 48 43 0,e 49 43 1,m 12 48,m 13 49],R [m 51 8,k 52 (.iadr 1 (.t 51) (i 2)),l 53 52,C 54 220 [53],m 50 54,e 55 50 0,e 56 50 1,N 14 y1,s 3 14 55,m 15 56],R [m 58 8,k 59 (.iadr 1 (.t 58) (i 3)),l 60 59,C 61 205 [60],m 57 61,e 62 57 0,e 63 57 1,m 16 62,m 17 63],R [m 65 8,k 66 (.iadr 1 (.t 65) (i 4)),l 67 66,C 68 205 [67],m 64 68,e 69 64 0,e 70 64 1,m 18 69,m 19 70],Q [R [m 71 11,u 72 71,m 73 72,H 73 (m 74 13),H 73 (u 75 74),o 76 73 75,m 77 76,H 77 (m 78 15),H 77 (u 79 78),o 80 77 79,m 81 80,H 81 (m 82 17),H 81 (u 83 82),o 84 81 83,m 85 84,H 85 (m 86 19),H 85 (u 87 86),o 88 85 87,m 89 88,H 89 (m 90 10),H 89 (h 91 90),H 89 (B 92 .neq 91 2),o 93 89 92],J 93 (Q [R [k 94 (.build y5 []),s 8 4 94,z 5 false],.ret])],D [m 95 10,p [0] (k 96 (.iadr 1 (.t 95) (i 0))),p [1,0] (l 97 96),m 98 10,p [3] (k 99 (.iadr 1 (.t 98) (i 1))),p [4,3] (l 100 99),m 101 12,L 102 3 14,m 103 16,m 104 18,p [2,1,0,5,4,3,6,7,8,9] (k 105 (.build y5 [(0,(1,.t 97)),(1,(1,.t 100)),(2,(1,.t 101)),(3,(3,.t 102)),(6,(1,.t 103)),(7,(1,.t 104))])),N 20 y5,p [11,10,2,1,0,5,4,3,6,7,8,9] (s 8 20 105)],Q [R [L 106 8 20,C 107 157 [106],u 108 107],J 108 (Q [R [k 109 (.build y5 []),s 8 4 109,z 5 false],.ret])],R [L 110 8 20,s 8 4 110,z 5 true],.ret],[.cell 4 8 true,.t 5]⟩).b
theorem sI : EE.fns 210 = some gC := by kernel_rfl
def gJ : CF := ({ b := _ } : V (α := CF) ⟨51,Q [R [N 4 y1,z 5 false],R [m 12 0,m 13 1,C 14 215 [12,13],m 11 14,e 15 11 0,e 16 11 1,m 6 15,m 7 16],R [m 18 6,C 19 205 [18],m 17 19,e 20 17 0,e 21 17 1,m 8 20,m 9 21],Q [R [m 22 9,u 23 22,m 24 23,H 24 (m 25 8),H 24 (h 26 25),H 24 (B 27 .neq 26 4),o 28 24 27,m 29 28,H 29 (m 30 8),H 29 (k 31 (.iadr 1 (.t 30) (i 0))),H 29 (l 32 31),H 29 (B 33 .neq 32 7),o 34 29 33],J 34 (Q [R [k 35 (.build y1 []),s 3 4 35,z 5 false],.ret])],D [m 36 8,p [0] (k 37 (.iadr 1 (.t 36) (i 1))),p [1,0] (l 38 37),m 39 8,p [3] (k 40 (.iadr 1 (.t 39) (i 2))),p [4,3] (l 41 40),m 42 8,p [6] (k 43 (.iadr 1 (.t 42) (i 3))),p [7,6] (l 44 43),p [2,1,0,5,4,3,8,7,6] (k 45 (.build y1 [(0,(1,.t 38)),(1,(1,.t 41)),(2,(1,.t 44))])),N 10 y1,p [10,9,2,1,0,5,4,3,8,7,6] (s 3 10 45)],Q [R [L 46 3 10,C 47 102 [46],u 48 47],J 48 (Q [R [k 49 (.build y1 []),s 3 4 49,z 5 false],.ret])],R [L 50 3 10,s 3 4 50,z 5 true],.ret],[.cell 4 3 true,.t 5]⟩).b
theorem tG : EE.fns 211 = some gJ := by kernel_rfl
def jZ : CF := ({ b := _ } : V (α := CF) ⟨37,Q [R [M 4 0,z 8 false],R [L 9 3 4,C 10 101 [9],m 11 10,G 11 (m 12 1),G 11 (E 13 48 [.t 12,i 0,i 2]),a 14 11 13,m 15 14,G 15 (m 16 2),G 15 (E 17 48 [.t 16,i 0,i 7]),a 18 15 17,m 19 18,G 19 (f 20 0 4),G 19 (l 21 20),G 19 (m 22 1),G 19 (C 23 225 [21,22]),a 24 19 23,m 25 24,G 25 (f 26 1 4),G 25 (l 27 26),G 25 (m 28 2),G 25 (C 29 225 [27,28]),a 30 25 29,m 31 30,G 31 (m 32 3),G 31 (f 33 2 4),G 31 (l 34 33),G 31 (E 35 48 [.t 32,i 0,.t 34]),a 36 31 35,m 8 36],.ret],[.t 8]⟩).b
theorem Abh : EE.fns 212 = some jZ := by kernel_rfl
def lS : CF := ({ b := _ } : V (α := CF) ⟨88,Q [R [M 4 0,M 5 1,N 8 y8,j 9 0],Q [R [L 12 2 4,C 13 60 [12],u 14 13],J 14 (Q [R [k 15 (.build y8 []),s 2 8 15,j 9 1],.ret])],R [L 16 2 4,C 17 209 [16],s 2 4 17],.block 0 (Q [R [L 19 3 5,C 20 102 [19],u 21 20,m 22 21,H 22 (m 23 2),H 22 (E 24 48 [.t 23,i 0,i 100000]),H 22 (u 25 24),o 26 22 25,m 27 26,H 27 (m 28 3),H 27 (E 29 48 [.t 28,i 0,i 20]),H 27 (u 30 29),o 31 27 30,m 18 31],W 18 (Q [R [L 32 2 4,s 2 8 32,j 9 1],.ret]) (Q [R [m 34 2,f 35 1 5,l 36 35,m 37 3,C 38 217 [34,36,37],m 33 38],W 33 (Q [R [L 39 2 4,s 2 8 39,j 9 2],.ret]) (Q [R [m 41 2,f 42 0 4,l 43 42,b 44 .leq 41 43,m 40 44],W 40 (Q [R [L 45 2 4,s 2 8 45,j 9 3],.ret]) (Q [R [f 47 1 4,l 48 47,L 49 3 5,C 50 103 [48,49],m 46 50],J 46 (Q [R [L 51 2 4,s 2 8 51,j 9 4],.ret])])])])]),R [k 52 (.mkO 0 3 y1 []),m 10 52],Q [R [j 11 0],F 1 (Q [Q [R [m 53 11,f 54 1 4,l 55 54,h 56 55,b 57 .lss 53 56],U 57 (.exit 1)],.block 2 (Q [R [f 60 1 4,l 61 60,m 62 11,A 63 3 61 62,f 64 1 63,l 65 64,m 66 2,m 67 3,b 68 .sub 66 67,b 69 .geq 65 68],J 69 (R [m 70 10,f 71 1 4,l 72 71,m 73 11,A 74 3 72 73,L 75 3 74,k 76 (.mkV 1 3 y1 [(0,.t 75)]),k 77 (.app 3 24 (.t 70) (.t 76)),m 10 77])]),R [m 58 11,B 59 .add 58 1,m 11 59]])],Q [R [m 78 10,h 79 78,B 80 .geq 79 6],J 80 (Q [R [L 81 2 4,s 2 8 81,j 9 5],.ret])],R [m 82 10,L 83 3 5,k 84 (.mkV 1 3 y1 [(0,.t 83)]),k 85 (.app 3 24 (.t 82) (.t 84)),f 86 1 4,s 1 86 85],R [L 87 2 4,s 2 8 87,j 9 0],.ret],[.cell 8 2 true,.t 9]⟩).b
theorem uX : EE.fns 213 = some lS := by kernel_rfl
def jY : CF := ({ b := _ } : V (α := CF) ⟨21,Q [R [j 2 0,z 3 false],Q [R [m 6 0,C 7 57 [6],u 8 7,m 9 8,H 9 (m 10 0),H 9 (k 11 (.idx (.t 10) (i 0))),H 9 (k 12 (.bin .neq (.t 11) (.c (.int .u8 107)))),o 13 9 12],J 13 (Q [R [j 2 0,z 3 false],.ret])],R [m 15 0,k 16 (.slcS (.t 15) (.some (i 1)) .none),C 17 140 [16],m 14 17,e 18 14 0,e 19 14 1,m 4 18,m 5 19],R [m 20 4,m 2 20,z 3 true],.ret],[.t 2,.t 3]⟩).b
theorem sC : EE.fns 214 = some jY := by kernel_rfl
def dL : CF := ({ b := _ } : V (α := CF) ⟨29,Q [R [c 4 (.string ⟨#[]⟩),z 5 false],Q [R [m 8 0,C 9 57 [8],u 10 9,m 11 10,H 11 (m 12 0),H 11 (k 13 (.idx (.t 12) (i 0))),H 11 (k 14 (.bin .neq (.t 13) (.c (.int .u8 115)))),o 15 11 14],J 15 (Q [R [c 4 (.string ⟨#[]⟩),z 5 false],.ret])],R [m 17 0,k 18 (.slcS (.t 17) (.some (i 1)) .none),C 19 140 [18],m 16 19,e 20 16 0,e 21 16 1,m 6 20,m 7 21],Q [R [m 22 6,m 23 1,b 24 .neq 22 23],J 24 (Q [R [c 4 (.string ⟨#[]⟩),z 5 false],.ret])],R [m 25 0,m 26 7,k 27 (.bin .add (i 1) (.t 26)),k 28 (.slcS (.t 25) (.some (.t 27)) .none),m 4 28,z 5 true],.ret],[.t 4,.t 5]⟩).b
theorem zV : EE.fns 215 = some dL := by kernel_rfl
def cY : CF := ({ b := _ } : V (α := CF) ⟨31,Q [R [j 2 0,z 3 false],R [m 9 0,C 10 226 [9],m 8 10,e 11 8 0,e 12 8 1,m 4 11,m 5 12],R [m 14 4,C 15 140 [14],m 13 15,e 16 13 0,e 17 13 1,m 6 16,m 7 17],Q [R [m 18 5,u 19 18,m 20 19,H 20 (m 21 7),H 20 (B 22 .eql 21 0),o 23 20 22,m 24 23,H 24 (m 25 7),H 24 (m 26 4),H 24 (k 27 (.lenT (.t 26))),H 24 (b 28 .neq 25 27),o 29 24 28],J 29 (Q [R [j 2 0,z 3 false],.ret])],R [m 30 6,m 2 30,z 3 true],.ret],[.t 2,.t 3]⟩).b
theorem uD : EE.fns 216 = some cY := by kernel_rfl
def iY : CF := ({ b := _ } : V (α := CF) ⟨19,Q [R [z 6 false],R [m 7 0,m 8 1,b 9 .sub 7 8,m 10 2,b 11 .gtr 9 10,m 12 11,H 12 (m 13 1),H 12 (m 14 0),H 12 (b 15 .sub 13 14),H 12 (m 16 2),H 12 (b 17 .gtr 15 16),o 18 12 17,m 6 18],.ret],[.t 6]⟩).b
theorem zJ : EE.fns 217 = some iY := by kernel_rfl
def mG : CF := ({ b := _ } : V (α := CF) ⟨23,Q [R [M 7 3,N 8 y15],R [m 10 0,k 11 (.mkO 2 1 y0 [(0,i 3),(1,.t 10)]),C 12 158 [11],m 13 1,m 14 2,k 15 (.mkO 3 1 y4 [(0,.t 12),(1,.t 13),(2,.t 14)]),C 16 154 [15],m 9 16],Q [R [m 17 9,k 18 (.bin .eql (.t 17) (.c (.string ⟨#[]⟩)))],J 18 (Q [R [E 19 204 [i 1],s 13 8 19],.ret])],R [m 20 9,L 21 11 7,k 22 (.build y15 [(1,(1,.t 20)),(2,(11,.t 21))]),s 13 8 22],.ret],[.cell 8 13 true]⟩).b
theorem wK : EE.fns 218 = some mG := by kernel_rfl
def mS : CF := ({ b := _ } : V (α := CF) ⟨24,Q [R [M 2 0,c 4 (.string ⟨#[]⟩)],Q [R [L 5 6 2,C 6 224 [5],u 7 6],J 7 (Q [R [c 4 (.string ⟨#[]⟩)],.ret])],D [m 8 1,f 9 0 2,p [1] (l 10 9),p [2,1] (k 11 (.pureC 152 [.t 10])),f 12 1 2,p [4] (l 13 12),f 14 2 2,p [6] (l 15 14),p [5,4,7,6] (k 16 (.mkO 2 1 y0 [(0,.t 13),(1,.t 15)])),p [8,5,4,7,6,3,2,1] (C 17 158 [16]),f 18 3 2,p [10] (L 19 3 18),p [11,10,9,8,5,4,7,6,3,2,1] (C 20 159 [19]),p [3,2,1,9,8,5,4,7,6,12,11,10] (k 21 (.mkO 3 1 y4 [(0,.t 11),(1,.t 17),(2,.t 20)])),p [13,3,2,1,9,8,5,4,7,6,12,11,10] (C 22 154 [21]),p [0,14,13,3,2,1,9,8,5,4,7,6,12,11,10] (C 23 153 [8,22]),p [15,0,14,13,3,2,1,9,8,5,4,7,6,12,11,10] (m 4 23)],.ret],[.t 4]⟩).b
theorem rU : EE.fns 219 = some mS := by kernel_rfl
def iI : CF := ({ b := _ } : V (α := CF) ⟨35,Q [R [N 2 y1,z 3 false],R [m 8 0,C 9 205 [8],m 7 9,e 10 7 0,e 11 7 1,m 4 10,m 5 11],Q [R [m 12 5,u 13 12,m 14 13,H 14 (m 15 4),H 14 (h 16 15),H 14 (B 17 .neq 16 3),o 18 14 17],J 18 (Q [R [k 19 (.build y1 []),s 3 2 19,z 3 false],.ret])],D [m 20 4,p [0] (k 21 (.iadr 1 (.t 20) (i 0))),p [1,0] (l 22 21),m 23 4,p [3] (k 24 (.iadr 1 (.t 23) (i 1))),p [4,3] (l 25 24),m 26 4,p [6] (k 27 (.iadr 1 (.t 26) (i 2))),p [7,6] (l 28 27),p [2,1,0,5,4,3,8,7,6] (k 29 (.build y1 [(0,(1,.t 22)),(1,(1,.t 25)),(2,(1,.t 28))])),N 6 y1,p [10,9,2,1,0,5,4,3,8,7,6] (s 3 6 29)],Q [R [L 30 3 6,C 31 101 [30],u 32 31],J 32 (Q [R [k 33 (.build y1 []),s 3 2 33,z 3 false],.ret])],R [L 34 3 6,s 3 2 34,z 3 true],.ret],[.cell 2 3 true,.t 3]⟩).b
theorem uV : EE.fns 220 = some iI := by kernel_rfl
def iE : CF := ({ b := _ } : V (α := CF) ⟨60,Q [R [M 3 0,N 6 y5,j 7 0,z 8 false],R [m 15 2,m 16 1,C 17 193 [16],C 18 210 [15,17],m 14 18,e 19 14 0,e 20 14 1,N 9 y5,s 8 9 19,m 10 20],Q [R [m 21 10,m 22 21,G 22 (f 23 1 9),G 22 (l 24 23),G 22 (m 25 1),G 22 (k 26 (.bin .add (i 10) (.t 25))),G 22 (b 27 .eql 24 26),a 28 22 27],J 28 (Q [R [L 29 8 9,s 8 6 29,j 7 (-1),z 8 true],.ret])],Q [R [j 11 0],F 0 (Q [Q [R [m 30 11,B 31 .lss 30 3],U 31 (.exit 0)],.block 1 (Q [Q [R [f 34 2 3,l 35 34,m 36 11,m 37 1,k 38 (.build y11 [(0,(1,.t 36)),(1,(1,.t 37))]),C 39 139 [35,38],u 40 39],J 40 (.exit 1)],R [m 42 2,m 43 11,m 44 1,C 45 194 [43,44],C 46 210 [42,45],m 41 46,e 47 41 0,e 48 41 1,N 12 y5,s 8 12 47,m 13 48],R [m 49 13,m 50 49,G 50 (f 51 1 12),G 50 (l 52 51),G 50 (m 53 1),G 50 (k 54 (.bin .add (i 10) (.t 53))),G 50 (b 55 .eql 52 54),a 56 50 55],J 56 (Q [R [L 57 8 12,m 58 11,s 8 6 57,m 7 58,z 8 true],.ret])]),R [m 32 11,B 33 .add 32 1,m 11 33]])],R [k 59 (.build y5 []),s 8 6 59,j 7 (-1),z 8 false],.ret],[.cell 6 8 true,.t 7,.t 8]⟩).b
theorem yC : EE.fns 221 = some iE := by kernel_rfl
def mV : CF := ({ b := _ } : V (α := CF) ⟨37,Q [R [M 2 0,M 3 1,N 4 y1],Q [R [L 6 3 2,C 7 101 [6],u 8 7,m 9 8,H 9 (L 10 3 3),H 9 (C 11 101 [10]),H 9 (u 12 11),o 13 9 12],J 13 (Q [R [k 14 (.build y1 []),s 3 4 14],.ret])],R [f 15 0 2,l 16 15,f 17 0 3,l 18 17,b 19 .and 16 18,f 20 1 2,l 21 20,f 22 1 3,l 23 22,b 24 .and 21 23,f 25 2 2,l 26 25,k 27 (.build y1 [(0,(1,.t 19)),(1,(1,.t 24)),(2,(1,.t 26))]),N 5 y1,s 3 5 27],Q [R [f 28 2 3,l 29 28,f 30 2 5,l 31 30,b 32 .lss 29 31],J 32 (R [f 33 2 3,l 34 33,f 35 2 5,s 1 35 34])],R [L 36 3 5,s 3 4 36],.ret],[.cell 4 3 true]⟩).b
theorem xJ : EE.fns 222 = some mV := by kernel_rfl
def mU : CF := ({ b := _ } : V (α := CF) ⟨102,Q [R [M 8 0,M 11 3,M 13 5,M 15 7,N 16 y5,j 17 0],R [f 21 0 11,l 22 21,B 23 .sub 22 3,m 18 23],Q [R [m 24 18,B 25 .lss 24 0,m 26 25,H 26 (f 27 1 8),H 26 (l 28 27),H 26 (m 29 18),H 26 (A 30 1 28 29),H 26 (l 31 30),H 26 (m 32 1),H 26 (b 33 .neq 31 32),o 34 26 33,m 35 34,H 35 (f 36 1 8),H 35 (l 37 36),H 35 (m 38 4),H 35 (A 39 1 37 38),H 35 (l 40 39),H 35 (m 41 1),H 35 (b 42 .neq 40 41),o 43 35 42],J 43 (Q [R [L 44 8 15,s 8 16 44,j 17 6],.ret])],R [m 46 6,f 47 0 11,l 48 47,C 49 177 [48],C 50 210 [46,49],m 45 50,e 51 45 0,e 52 45 1,N 19 y5,s 8 19 51,m 20 52],Q [R [m 53 20,u 54 53,m 55 54,H 55 (f 56 1 19),H 55 (l 57 56),H 55 (m 58 18),H 55 (b 59 .neq 57 58),o 60 55 59],J 60 (Q [R [L 61 8 15,s 8 16 61,j 17 1],.ret])],Q [R [m 62 2,f 63 3 19,f 64 2 63,l 65 64,b 66 .gtr 62 65],J 66 (Q [R [L 67 8 15,s 8 16 67,j 17 4],.ret])],Q [R [f 68 3 8,l 69 68,m 70 18,m 71 4,k 72 (.build y11 [(0,(1,.t 70)),(1,(1,.t 71))]),C 73 139 [69,72],u 74 73,m 75 74,H 75 (f 76 7 19),H 75 (l 77 76),H 75 (h 78 77),H 75 (B 79 .geq 78 4),o 80 75 79],J 80 (Q [R [L 81 8 15,s 8 16 81,j 17 6],.ret])],R [f 82 0 19,l 83 82,f 84 0 15,s 1 84 83],R [f 85 3 19,L 86 3 85,L 87 3 13,C 88 222 [86,87],f 89 3 15,s 3 89 88],R [f 90 6 19,l 91 90,f 92 6 15,s 1 92 91],R [k 93 (.mkO 0 1 y0 []),f 94 7 19,l 95 94,k 96 (.app 1 8 (.t 93) (.t 95)),m 97 18,k 98 (.mkV 1 1 y0 [(0,.t 97)]),k 99 (.app 1 8 (.t 96) (.t 98)),f 100 7 15,s 1 100 99],R [L 101 8 15,s 8 16 101,j 17 0],.ret],[.cell 16 8 true,.t 17]⟩).b
theorem zD : EE.fns 223 = some mU := by kernel_rfl
def mH : CF := ({ b := _ } : V (α := CF) ⟨21,Q [R [M 1 0,z 2 false],R [f 3 0 1,l 4 3,E 5 48 [.t 4,i 1,i 1000000],m 6 5,G 6 (f 7 1 1),G 6 (l 8 7),G 6 (C 9 100 [8]),a 10 6 9,m 11 10,G 11 (f 12 2 1),G 11 (l 13 12),G 11 (E 14 48 [.t 13,i 0,i 1000000]),a 15 11 14,m 16 15,G 16 (f 17 3 1),G 16 (L 18 3 17),G 16 (C 19 101 [18]),a 20 16 19,m 2 20],.ret],[.t 2]⟩).b
theorem Aao : EE.fns 224 = some mH := by kernel_rfl
def mQ : CF := ({ b := _ } : V (α := CF) ⟨11,Q [R [z 4 false],R [m 5 0,m 6 1,k 7 (.toInt .u64 (.t 6)),b 8 .shr 5 7,B 9 .and 8 1,B 10 .eql 9 1,m 4 10],.ret],[.t 4]⟩).b
theorem tS : EE.fns 225 = some mQ := by kernel_rfl
def eA : CF := ({ b := _ } : V (α := CF) ⟨24,Q [R [c 2 (.string ⟨#[]⟩),z 3 false],Q [R [m 6 0,C 7 57 [6],u 8 7,m 9 8,H 9 (m 10 0),H 9 (k 11 (.idx (.t 10) (i 0))),H 9 (k 12 (.bin .neq (.t 11) (.c (.int .u8 97)))),o 13 9 12],J 13 (Q [R [c 2 (.string ⟨#[]⟩),z 3 false],.ret])],R [m 15 0,k 16 (.slcS (.t 15) (.some (i 1)) .none),C 17 140 [16],m 14 17,e 18 14 0,e 19 14 1,m 4 18,m 5 19],R [m 20 0,m 21 5,k 22 (.bin .add (i 1) (.t 21)),k 23 (.slcS (.t 20) (.some (.t 22)) .none),m 2 23,z 3 true],.ret],[.t 2,.t 3]⟩).b
theorem wC : EE.fns 226 = some eA := by kernel_rfl
end
theorem dG {H : Hp} {s : ByteArray} (hs : s.size ≤ 4611686018427387904) : Aw EE 170 [.string s] H (.string (Zf s)) := by
 refine Ag rfl rfl wD (by simp [lZ]) rfl fun m hw => ?_
 have a57 := Ax (X6 (H := H) hs)
 simp only [go_sem, Nat.reduceEqDiff, lZ, a57, hw]
 unfold Zf
 refine Bf.intro (fun q1 => ?_) (fun q1 => ?_) <;> simp only [go_sem, Nat.reduceEqDiff, q1]
 rfl
theorem C6 (a b : ByteArray) : (a ++ b).size = a.size + b.size := ByteArray.size_append
theorem Mx (c : UInt8) : (⟨#[c]⟩ : ByteArray).size = 1 := rfl
theorem nF {H : Hp} {x : ByteArray} (hx : x.size ≤ 40) : Aw EE 150 [.string x] H (.string (Ov x)) := by
 refine Ag rfl rfl pX (by simp [aL]) rfl fun m hw => ?_
 have hv := D0 (x.size : Int)
 have hA : (⟨#[97]⟩ : ByteArray).size + (Bx (x.size : Int)).size ≤ 9223372036854775807 := by rw [Mx]; omega
 have hB : ((⟨#[97]⟩ : ByteArray) ++ Bx (x.size : Int)).size + x.size ≤ 9223372036854775807 := by rw [C6, Mx]; omega
 have a160 := Ax (Us (H := H) (n := (x.size : Int)))
 have a170 := Ax (dG (H := H) (s := (⟨#[97]⟩ : ByteArray) ++ Bx (x.size : Int) ++ x) (by rw [C6, C6, Mx]; omega))
 have hd : decide ((x.size : Int) > 40) = false := decide_eq_false (by omega)
 simp only [go_sem, Nat.reduceEqDiff, aL, Cn, hd, a160, hw, hA, hB, a170]
 rfl
theorem tN {H : Hp} {n : Int} : Aw EE 171 [.int .i64 n] H (.string (O8 n)) := by
 refine Ag rfl rfl uN (by simp [gI]) rfl fun m hw => ?_
 have hv := D0 n
 have a160 := Ax (Us (H := H) (n := n))
 have a150 := Ax (nF (H := H) (x := Bx n) (by omega))
 simp only [go_sem, Nat.reduceEqDiff, gI, a160, hw]
 unfold O8
 refine Bf.intro (fun q1 => ?_) (fun q1 => ?_) <;> simp only [go_sem, Nat.reduceEqDiff, a150, hw]
 ·have q2 : Bx n = ByteArray.empty := As q1
  rw [if_pos q2]
  rfl
 ·have q2 : ¬ Bx n = ByteArray.empty := Au q1
  rw [if_neg q2]
theorem aX {H : Hp} {k : Int} {t : ByteArray} (ht : t.size ≤ 1048576) : Aw EE 153 [.int .i64 k, .string t] H (.string (Kk k t)) := by
 refine Ag rfl rfl yH (by simp [mB]) rfl fun m hw => ?_
 have hv := D0 k
 have hA : (⟨#[115]⟩ : ByteArray).size + (Bx k).size ≤ 9223372036854775807 := by rw [Mx]; omega
 have hB : ((⟨#[115]⟩ : ByteArray) ++ Bx k).size + t.size ≤ 9223372036854775807 := by rw [C6, Mx]; omega
 have a160 := Ax (Us (H := H) (n := k))
 have a57 := Ax (X6 (H := H) (s := t) (by omega))
 have a170 := Ax (dG (H := H) (s := (⟨#[115]⟩ : ByteArray) ++ Bx k ++ t) (by rw [C6, C6, Mx]; omega))
 simp only [go_sem, Nat.reduceEqDiff, mB, Yd, hw]
 unfold Kk
 refine Bf.intro (fun q1 => ?_) (fun q1 => ?_) <;> simp only [go_sem, Nat.reduceEqDiff, reduceCtorEq, q1, a57, hw]
 ·have q1' : 1 ≤ k ∧ k ≤ 1000000 := by simpa using q1
  refine Bf.intro (fun q2 => ?_) (fun q2 => ?_) <;> simp only [go_sem, Nat.reduceEqDiff, reduceCtorEq, q1, q2, a160, hw, hA, hB, a170]
  ·rw [if_pos q1']
   rfl
  ·rfl
 ·have q1' : ¬ (1 ≤ k ∧ k ≤ 1000000) := by simpa using q1
  rw [if_neg (fun h => q1' h.2)]
  rfl
noncomputable def X8 (l : List ByteArray) (i : Nat) : ByteArray := (l.take i).foldl (· ++ ·) (tA ++ Bx l.length)
theorem Tt {l : List ByteArray} {i : Nat} (h : i < l.length) : X8 l (i + 1) = X8 l i ++ l[i] := by
 unfold X8
 rw [List.take_succ_eq_append_getElem h, List.foldl_append]
 rfl
theorem Ok {l : List ByteArray} (hl : ∀ x ∈ l, x.size ≤ 1048576) : ∀ {i : Nat}, i ≤ l.length → (X8 l i).size ≤ 8 + 1048576 * i
 | 0, _ => by
  have := D0 (l.length : Int)
  unfold X8
  rw [List.take_zero, List.foldl_nil, C6]
  have : tA.size = 1 := rfl
  omega
 | i + 1, h => by
  rw [Tt h, C6]
  have := Ok hl (i := i) (by omega)
  have := hl _ (List.getElem_mem h)
  omega
theorem Sc {l : List ByteArray} {x : ByteArray} (hx : x ∈ l) (h : Ej x = false) : F7 l = ⟨#[]⟩ := by
 unfold F7
 rw [if_neg (fun h2 => by rw [h2.1 x hx] at h; cases h)]
 rfl
theorem Xx {l : List ByteArray} (h : ∀ x ∈ l, Ej x = true) (h12 : l.length ≤ 12) : F7 l = Zf (X8 l l.length) := by
 unfold F7 X8
 rw [if_pos ⟨h, h12⟩, List.take_length]
theorem oH {H : Hp} {v : Value} {l : List ByteArray} (hv : Dz H v l) (h12 : l.length ≤ 12) (hl : ∀ x ∈ l, x.size ≤ 1048576) : Aw EE 154 [v] H (.string (F7 l)) := by
 refine Ag rfl rfl oS (by simp [aA]) rfl fun m hw => ?_
 have hb := D0 (l.length : Int)
 have hA : (⟨#[108]⟩ : ByteArray).size + (Bx (l.length : Int)).size ≤ 9223372036854775807 := by rw [Mx]; omega
 have a160 := Ax (Us (H := H) (n := (l.length : Int)))
 have hd : decide ((l.length : Int) > 12) = false := decide_eq_false (by omega)
 simp only [go_sem, Nat.reduceEqDiff, aA, hv.len, hd, a160, hw, hA]
 refine Ak l.length (fun i s => s.H = H ∧ s.ρ 0 = .val v ∧ s.ρ 4 = .val (.int .i64 i) ∧ s.ρ 3 = .val (.string (X8 l i)) ∧ ∀ x ∈ l.take i, Ej x = true)
  (fun s => s.H = H ∧ s.ρ 3 = .val (.string (X8 l l.length)) ∧ ∀ x ∈ l, Ej x = true) ?_ ?_ ?_
 ·exact ⟨rfl, by simp [Ah, Cb], by simp [Ah], by simp [Ah, X8]; rfl, by simp⟩
 ·rintro i s hi ⟨hH, h0, h4, h3, hok⟩
  simp only [go_sem, Nat.reduceEqDiff, h0, h3, h4, hv.len]
  refine Bf.intro (fun q1 => ?_) (fun q1 => ?_) <;> simp only [go_sem, Nat.reduceEqDiff, h0, h3, h4]
  ·have hil : i < l.length := by have := As q1; omega
   have hli := hl _ (List.getElem_mem hil)
   obtain ⟨id, p, o, ho, hr, hia⟩ := hv.str (B7 hil)
   have a57 := Ax (X6 (H := H) (s := l[i]) (by omega))
   have hsz := Ok hl (Nat.le_of_lt hil)
   have hB : (X8 l i).size + (l[i]).size ≤ 9223372036854775807 := by omega
   simp only [go_sem, Nat.reduceEqDiff, reduceCtorEq, h0, h3, h4, hH, hia, ho, hr, a57, hw]
   refine Bf.intro (fun q2 => ?_) (fun q2 => ?_) <;> simp only [go_sem, Nat.reduceEqDiff, reduceCtorEq, h0, h3, h4, hH, hia, ho, hr, hB, Ab ((i : Int) + 1) (by omega) (by omega)]
   ·refine ⟨hil, by simp, by rw [Tt hil], fun x hx => ?_⟩
    rw [List.take_succ_eq_append_getElem hil] at hx
    rcases Lh hx with hx | hx
    ·exact hok x hx
    ·rw [List.mem_singleton] at hx
     subst hx
     exact q2
   ·rw [Sc (List.getElem_mem hil) q2]
  ·have : i = l.length := by have := Au q1; omega
   subst this
   rw [List.take_length] at hok
   exact ⟨hH, rfl, hok⟩
 ·rintro s ⟨hH, h3, hok⟩
  have hsz := Ok hl (Nat.le_refl l.length)
  have a170 := Ax (dG (H := H) (s := X8 l l.length) (by omega))
  simp only [go_sem, h3, hH, a170, hw]
  rw [Xx hok h12]
theorem Xj (n : Int) : (O8 n).size ≤ 900 := by
 unfold O8
 split
 ·simp
 ·exact Fx _
theorem Cp (l : List ByteArray) : (F7 l).size ≤ 900 := by
 unfold F7
 split
 ·exact Fx _
 ·simp
theorem bS (y : ByteArray) : ((⟨#[97]⟩ : ByteArray) ++ y)[0]? = some 97 := by
 rw [I3 (by decide)]
 rfl
theorem Sk (c : UInt8) (y : ByteArray) : rest ((⟨#[c]⟩ : ByteArray) ++ y) 1 = y := by
 unfold rest
 refine ByteArray.ext ?_
 rw [ByteArray.data_extract, ByteArray.data_append, ByteArray.size_append]
 have : (⟨#[c]⟩ : ByteArray).data = #[c] := rfl
 rw [this, Array.extract_append]
 have h1 : (⟨#[c]⟩ : ByteArray).size = 1 := rfl
 have h2 : y.size = y.data.size := rfl
 rw [h1, h2]
 simp
theorem U8 {x : ByteArray} (h : 40 < x.size) (h2 : x.size ≤ 562949953421311) : Ov x = ⟨#[]⟩ := by
 unfold Ov Zf
 have : Ej (rL ++ Bx (x.size : Int) ++ x) = false := by
  cases hT : Ej (rL ++ Bx (x.size : Int) ++ x) with
  | false => rfl
  | true =>
   have h8 := (Ei.1 hT).2.2
   have e : rL ++ Bx (x.size : Int) ++ x = (⟨#[97]⟩ : ByteArray) ++ (Bx (x.size : Int) ++ x) := by
    rw [ByteArray.append_assoc]; rfl
   have hp := G7 x.size
   rw [e] at h8
   rw [show (8 : Nat) = 7 + 1 from rfl, Fa, Ca, bS, Sk, R5 h2] at h8
   simp only at h8
   rw [if_neg (by omega), if_pos trivial, if_neg (by omega)] at h8
   cases h8
 rw [this]
 rfl
theorem bC {H : Hp} {x : ByteArray} (hx : x.size ≤ 1048576) : Aw EE 150 [.string x] H (.string (Ov x)) := by
 by_cases h : x.size ≤ 40
 ·exact nF h
 ·refine Ag rfl rfl pX (by simp [aL]) rfl fun m hw => ?_
  have hd : decide ((x.size : Int) > 40) = true := decide_eq_true (by omega)
  simp only [go_sem, Nat.reduceEqDiff, aL, Cn, hd]
  rw [U8 (by omega) (by omega)]
end Go.Proofs.YtglboiahgpfjdaaGreat.Ev
