/- Texts of the proof, laid one behind the other. -/
import Derived.Test.YtglboiahgpfjdaaGreatB3
import Derived.Test.YtglboiahgpfjdaaGreatB5
import Derived.Test.YtglboiahgpfjdaaGreatB2
namespace Go.Proofs.YtglboiahgpfjdaaGreat.Ev
set_option linter.all false
set_option maxRecDepth 4000
open Go
abbrev evV (e : Pb) : Value := .agg #[.int .i64 e.kd, .int .i64 e.rm, .int .i64 e.bq, .int .i64 e.cl, .int .i64 e.sv, .int .i64 e.ky, .int .i64 e.pa, .int .i64 e.ev, .int .i64 e.rs.1, .int .i64 e.rs.2.1, .int .i64 e.rs.2.2]
abbrev rpV (c : Int) (s : ByteArray) (e : Pb) : Value := .agg #[.int .i64 c, .string s, .int .i64 e.kd, .int .i64 e.rm, .int .i64 e.bq, .int .i64 e.cl, .int .i64 e.sv, .int .i64 e.ky, .int .i64 e.pa, .int .i64 e.ev, .int .i64 e.rs.1, .int .i64 e.rs.2.1, .int .i64 e.rs.2.2]
def zE : Pb := ⟨0, 0, 0, 0, 0, 0, 0, 0, (0, 0, 0)⟩
def dF (r : Value) : Prop := ∃ (c : Int) (s : ByteArray) (e : Pb), r = rpV c s e ∧ s.size ≤ 900
abbrev fM (c : Int) : Value := .agg #[.int .i64 c, .string ⟨#[]⟩, .int .i64 0, .int .i64 0, .int .i64 0, .int .i64 0, .int .i64 0, .int .i64 0, .int .i64 0, .int .i64 0, .int .i64 0, .int .i64 0, .int .i64 0]
theorem Tn {H : Hp} {a : Int} : Aw EE 204 [.int .i64 a] H (fM a) := by
 refine Ag rfl rfl zN (by simp [Nh]) rfl fun m hw => ?_
 simp only [go_sem, Nat.reduceEqDiff, Nat.reduceLeDiff, Nh]
theorem Yj (a : Int) : dF (fM a) := ⟨a, ⟨#[]⟩, zE, rfl, Nat.zero_le _⟩
theorem I5 {H : Hp} {l : List Int} {cs : List Value} {n : Nat} (e : cs = l.map (Value.int .i64)) (hn : n = l.length) (h : l.length ≤ 1000) : Bu (H ++ [cs]) (.slice (some ⟨H.length, 0, some 1⟩) n n) l := by subst e; subst hn; exact N0 h
theorem Ml {H : Hp} {l : List ByteArray} {cs : List Value} {n : Nat} (e : cs = l.map Value.string) (hn : n = l.length) (h : l.length ≤ 1000) : Dz (H ++ [cs]) (.slice (some ⟨H.length, 0, some 1⟩) n n) l := by subst e; subst hn; exact Uo h
theorem Vh {s : ByteArray} (h : s.size ≤ 900) : s.size ≤ 1048576 := C8 h (by decide)
theorem rM {a b c : ByteArray} (ha : a.size ≤ 1048576) (hb : b.size ≤ 1048576) (hc : c.size ≤ 1048576) : ∀ x ∈ [a, b, c], x.size ≤ 1048576 := fun x hx => by
 simp only [List.mem_cons, List.not_mem_nil, or_false] at hx
 rcases hx with rfl | rfl | rfl <;> assumption
theorem rP {H : Hp} {n : Int} {a b : ByteArray} {e : Pb} (ha : a.size ≤ 1048576) (hb : b.size ≤ 1048576) : A4 EE 218 [.int .i64 n, .string a, .string b, evV e] H dF := by
 refine Ar rfl rfl wK (by simp [mG]) fun m hw => ?_
 have P1 : H <+: H ++ [[.int .i64 3, .int .i64 n]] := Eg
 have hs : Bu (H ++ [[.int .i64 3, .int .i64 n]]) (.slice (some ⟨H.length, 0, some 1⟩) 2 2) [3, n] := I5 rfl rfl (by simp)
 generalize hH1 : H ++ [[.int .i64 3, .int .i64 n]] = H1 at *
 have P2 : H1 <+: H1 ++ [[.string (Ay [3, n]), .string a, .string b]] := Eg
 have hs2 : Dz (H1 ++ [[.string (Ay [3, n]), .string a, .string b]]) (.slice (some ⟨H1.length, 0, some 1⟩) 3 3) [Ay [3, n], a, b] := Ml rfl rfl (by simp)
 have a158 := Ax (Mk hs)
 have a154 := Ax (Lo hs2 (rM (Vh (B2 _)) ha hb))
 have a204 := Ax (Tn (H := H1 ++ [[.string (Ay [3, n]), .string a, .string b]]) (a := 1))
 have w1 := hw.pre P1
 have w2 := w1.pre P2
 have bl := Cp [Ay [3, n], a, b]
 simp only [go_sem, Nat.reduceEqDiff, Nat.reduceLeDiff, Nat.reduceMul, mG, hH1, a158, w1, a154, w2]
 cases q : decide (F7 [Ay [3, n], a, b] = ⟨#[]⟩) <;> simp only [go_sem, Nat.reduceEqDiff, Nat.reduceLeDiff, Nat.reduceMul, q, a204, w2]
 ·exact ⟨rfl, ⟨0, _, e, rfl, bl⟩, (List.prefix_iff_eq_take.1 (P1.trans P2)).symm⟩
 ·exact ⟨rfl, Yj 1, (List.prefix_iff_eq_take.1 (P1.trans P2)).symm⟩
def S9 (r : Value) : Prop := ∃ s : ByteArray, r = .string s ∧ s.size ≤ 900
theorem Aw.toP {f : Nat} {vs : List Value} {H : Hp} {r : Value} {P : Value → Prop} (h : Aw EE f vs H r) (hp : P r) : A4 EE f vs H P := fun m hw => (h m hw).mono fun _ _ ⟨e1, e2⟩ => ⟨e1 ▸ hp, e2⟩
theorem Bl {α : Type} {R : α → List Value → Prop} {n : Nat} {H : Hp} : Sl R n H (.slice none 0 0) [] := .inl ⟨rfl, rfl⟩
theorem Qd {H : Hp} {a b c d e f k : Int} {p v : Value} {pl vl : List Int} (hp : Bu H p pl) (hv : Bu H v vl) : A4 EE 138 [.agg #[.int .i64 a, .int .i64 b, .int .i64 c, .int .i64 d, .int .i64 e, .int .i64 f, p, v], .int .i64 k] H S9 :=
 Aw.toP (tO (t := ⟨a, b, c, (d, e, f), pl, vl⟩) (k := k) hp hv) ⟨_, rfl, Yb _ _⟩
theorem Vw {H : Hp} {a b c d e f k : Int} : A4 EE 219 [.agg #[.int .i64 a, .int .i64 b, .int .i64 c, .int .i64 d, .int .i64 e, .int .i64 f], .int .i64 k] H S9 :=
 Aw.toP (xS (g := (a, b, c, d, e, f)) (k := k)) ⟨_, rfl, Yc _ _⟩
theorem Vv {H : Hp} {n a b c d e f g h i j k : Int} {x y : ByteArray} (hx : x.size ≤ 900) (hy : y.size ≤ 900) : A4 EE 218 [.int .i64 n, .string x, .string y, .agg #[.int .i64 a, .int .i64 b, .int .i64 c, .int .i64 d, .int .i64 e, .int .i64 f, .int .i64 g, .int .i64 h, .int .i64 i, .int .i64 j, .int .i64 k]] H dF :=
 rP (e := ⟨a, b, c, d, e, f, g, h, (i, j, k)⟩) (Vh hx) (Vh hy)
theorem tU {H : Hp} {c : Ic} {u s l p : Value} (hc : K5 H c u s l p) {b w k cl no : Int} {t : ByteArray} (ht : t.size ≤ 4611686018427387904) : A4 EE 206 [T3 c u s l p, .int .i64 b, .int .i64 w, .int .i64 k, .int .i64 cl, .int .i64 no, .string t] H dF := by
 refine Ar rfl rfl xR (by simp [iP]) fun m hw => ?_
 obtain ⟨v1, v2, v3, v4⟩ := hc.vcs
 have fl : ∀ {H2 : Hp} (a : Int), H <+: H2 → A8 (fM a) = true ∧ dF (fM a) ∧ H2.take H.length = H := fun a h => ⟨rfl, Yj a, (List.prefix_iff_eq_take.1 h).symm⟩
 have a204 := Ax (Tn (H := H) (a := 1))
 simp only [go_sem, Nat.reduceEqDiff, iP, v1, v2, v3, v4]
 refine Aa (fun m' h => cU hc (n := cl) m' h) rfl hw fun r1 H1 ⟨⟨x1, e1, _⟩, e2⟩ => ?_
 subst e1; subst e2
 simp only [go_sem, Nat.reduceEqDiff]
 cases q : decide (x1 = b) <;> simp only [go_sem, Nat.reduceEqDiff, q, a204, hw]
 ·exact ⟨rfl, Yj 1⟩
 refine Aa (fun m' h => Ra (a := cl) m' h) rfl hw fun r1 H1 ⟨⟨x2, e1⟩, e2⟩ => ?_
 subst e1; subst e2
 have a215 := Ax (Yu (H := H1) (k := x2) ht)
 have hz := Qy (s := t) (k := x2)
 simp only [go_sem, Nat.reduceEqDiff, a215, hw, Oq, List.getElem?_toArray, Bd]
 refine Aa (fun m' h => Ph (s := (Ck t x2).getD ⟨#[]⟩) (by omega) h) rfl hw fun r2 H2 ⟨v, li, b0, e1, p2, sv, ov⟩ => ?_
 subst e1
 have p2 : H1 <+: H2 := p2
 have hw2 := hw.pre p2
 have b204 := fun {a m draw t d ts Q} => Bw (m := m) (draw := draw) (s := t) (d := d) (ts := ts) (Q := Q) (Tn (H := H2) (a := a))
 simp only [go_sem, Nat.reduceEqDiff, List.getElem?_toArray, Bd, sv.vc]
 cases b0 <;> simp only [go_sem, Nat.reduceEqDiff, reduceCtorEq, sv.len, b204, hw2]
 ·exact fl 2 p2
 cases q : decide ((li.length : Int) = 2) <;> simp only [go_sem, Nat.reduceEqDiff, reduceCtorEq, q, b204, hw2]
 ·exact fl 2 p2
 have q : li.length = 2 := by have := As q; omega
 obtain ⟨y0, i0, q0, o0, h0, r0, a0⟩ := sv.int0 (n := 0) (k := 0) rfl (by omega)
 obtain ⟨y1, i1, q1, o1, h1, r1, a1⟩ := sv.int0 (n := 1) (k := 1) rfl (by omega)
 simp only [go_sem, Nat.reduceEqDiff, reduceCtorEq, a0, h0, r0]
 cases q7 : decide (y0 = 8) <;> simp only [go_sem, Nat.reduceEqDiff, reduceCtorEq, q7, b204, hw2]
 ·exact fl 2 p2
 refine Af ?_
 simp only [go_sem, Nat.reduceEqDiff, reduceCtorEq, a1, h1, r1, v1, v2, v3, v4]
 refine Aa (fun m' h => fU (a := w) (b := y1) (c := c.skew) m' h) rfl hw2 fun r3 H3 ⟨⟨x3, e1⟩, e3⟩ => ?_
 subst e1; subst e3
 simp only [go_sem, Nat.reduceEqDiff]
 refine ⟨by rfl, ?_⟩
 cases x3 <;> simp only [go_sem, Nat.reduceEqDiff, b204, hw2]
 rotate_left
 ·exact fl 3 p2
 cases q8 : decide (IntKind.i64.wrap (w + 50) > 100000) <;> simp only [go_sem, Nat.reduceEqDiff, Nat.reduceLeDiff, q8, b204, hw2]
 rotate_left
 ·exact fl 4 p2
 refine Af ?_
 simp only [go_sem, Nat.reduceEqDiff]
 refine Aa (fun m' h => jS (a := b) m' h) rfl hw2 fun r3 H3 ⟨⟨x4, e1⟩, e3⟩ => ?_
 subst e1; subst e3
 simp only [go_sem, Nat.reduceEqDiff]
 refine Aa (fun m' h => Qd Bl Bl m' h) rfl hw2 fun r3 H3 ⟨⟨s5, e1, z5⟩, e3⟩ => ?_
 subst e1; subst e3
 simp only [go_sem, Nat.reduceEqDiff]
 refine Aa (fun m' h => Ra (a := cl) m' h) rfl hw2 fun r3 H3 ⟨⟨x6, e1⟩, e3⟩ => ?_
 subst e1; subst e3
 simp only [go_sem, Nat.reduceEqDiff]
 refine Aa (fun m' h => Vw m' h) rfl hw2 fun r3 H3 ⟨⟨s7, e1, z7⟩, e3⟩ => ?_
 subst e1; subst e3
 simp only [go_sem, Nat.reduceEqDiff]
 refine Aa (fun m' h => Vv z5 z7 m' h) rfl hw2 fun r3 H3 ⟨⟨c8, s8, e8, e1, z8⟩, e3⟩ => ?_
 subst e1; subst e3
 simp only [go_sem, Nat.reduceEqDiff]
 refine ⟨by rfl, ?_⟩
 exact ⟨rfl, ⟨c8, s8, e8, rfl, z8⟩, (List.prefix_iff_eq_take.1 p2).symm⟩
theorem qE {H : Hp} {a b n : Int} : A4 EE 176 [.int .i64 a, .int .i64 b, .int .i64 n] H S9 := by
 refine Ar rfl rfl sY (by simp [fZ]) fun m hw => ?_
 have no : S9 (.string ⟨#[]⟩) := ⟨_, rfl, Nat.zero_le _⟩
 have a61 := Ax (cW (H := H) (a := a))
 simp only [go_sem, Nat.reduceEqDiff, fZ, a61, hw]
 cases q : A0 a 0 5 <;> simp only [go_sem, Nat.reduceEqDiff, q]
 ·exact no
 refine Aa (fun m' h => lX (a := b) m' h) rfl hw fun r1 H1 ⟨⟨x1, e1⟩, e2⟩ => ?_
 subst e1; subst e2
 cases x1 <;> simp only [go_sem, Nat.reduceEqDiff, reduceCtorEq]
 rotate_left
 ·exact no
 refine Aa (fun m' h => lX (a := n) m' h) rfl hw fun r1 H2 ⟨⟨x1, e1⟩, e2⟩ => ?_
 subst e1; subst e2
 cases x1 <;> simp only [go_sem, Nat.reduceEqDiff, reduceCtorEq]
 rotate_left
 ·exact no
 have P1 : H2 <+: H2 ++ [[.int .i64 1, .int .i64 a, .int .i64 n]] := Eg
 have s1 : Bu (H2 ++ [[.int .i64 1, .int .i64 a, .int .i64 n]]) (.slice (some ⟨H2.length, 0, some 1⟩) 3 3) [1, a, n] := I5 rfl rfl (by simp)
 have P1 : Wr m H2 → H2 <+: H2 ++ [[.int .i64 1, .int .i64 a, .int .i64 n]] := fun _ => P1
 generalize hH1 : H2 ++ [[.int .i64 1, .int .i64 a, .int .i64 n]] = K1 at *
 have P1 := P1 hw
 have w1 := hw.pre P1
 have a158 := Ax (Mk s1)
 simp only [go_sem, Nat.reduceEqDiff, Nat.reduceLeDiff, Nat.reduceMul, hH1, a158, w1]
 refine Aa (fun m' h => Ra (a := a) m' h) rfl w1 fun r3 H3 ⟨⟨x6, e1⟩, e3⟩ => ?_
 subst e1; subst e3
 simp only [go_sem, Nat.reduceEqDiff]
 have P2 : H3 <+: H3 ++ [[.int .i64 8, .int .i64 b]] := Eg
 have s2 : Bu (H3 ++ [[.int .i64 8, .int .i64 b]]) (.slice (some ⟨H3.length, 0, some 1⟩) 2 2) [8, b] := I5 rfl rfl (by simp)
 generalize hH2 : H3 ++ [[.int .i64 8, .int .i64 b]] = K2 at *
 have w2 := w1.pre P2
 have b158 := Ax (Mk s2)
 have a153 := Ax (aX (H := K2) (k := x6) (t := Ay [8, b]) (Vh (B2 _)))
 have P3 : K2 <+: K2 ++ [[.string (Ay [1, a, n]), .string (Kk x6 (Ay [8, b]))]] := Eg
 have s3 : Dz (K2 ++ [[.string (Ay [1, a, n]), .string (Kk x6 (Ay [8, b]))]]) (.slice (some ⟨K2.length, 0, some 1⟩) 2 2) [Ay [1, a, n], Kk x6 (Ay [8, b])] := Ml rfl rfl (by simp)
 have w3 := w2.pre P3
 have a154 := Ax (Lo s3 (fun x hx => by rcases List.mem_cons.1 hx with rfl | hx; exact Vh (B2 _); rw [bJ hx]; exact Vh (Gu _ _)))
 simp only [go_sem, Nat.reduceEqDiff, Nat.reduceLeDiff, Nat.reduceMul, hH2, b158, w2, a153, a154, w3]
 exact ⟨⟨_, rfl, Cp _⟩, (List.prefix_iff_eq_take.1 ((P1.trans P2).trans P3)).symm⟩
theorem sz5 {a b c d e : ByteArray} (ha : a.size ≤ 1048576) (hb : b.size ≤ 1048576) (hc : c.size ≤ 1048576) (hd : d.size ≤ 1048576) (he : e.size ≤ 1048576) : ∀ x ∈ [a, b, c, d, e], x.size ≤ 1048576 := fun x hx => by
 simp only [List.mem_cons, List.not_mem_nil, or_false] at hx
 rcases hx with rfl | rfl | rfl | rfl | rfl <;> assumption
theorem oC {H : Hp} {x y : Re} {t z : ByteArray} {k a b : Int} (ht : t.size ≤ 1048576) (hz : z.size ≤ 1048576) : A4 EE 191 [.string t, .int .i64 k, Ry x, .int .i64 a, Ry y, .int .i64 b, .string z] H S9 := by
 refine Ar rfl rfl yS (by simp [iN]) fun m hw => ?_
 have a150 := Ax (bC (H := H) (x := ⟨#[]⟩) (Nat.zero_le _))
 have P1 : H <+: H ++ [[.int .i64 2, .int .i64 a, .int .i64 b]] := Eg
 have s1 : Bu (H ++ [[.int .i64 2, .int .i64 a, .int .i64 b]]) (.slice (some ⟨H.length, 0, some 1⟩) 3 3) [2, a, b] := I5 rfl rfl (by simp)
 generalize hH1 : H ++ [[.int .i64 2, .int .i64 a, .int .i64 b]] = H1 at *
 have w1 := hw.pre P1
 have a158 := Ax (Mk s1)
 have a192 := Ax (hM (H := H1) (x := x) (k := k))
 have a159 := Ax (lA (H := H1) (x := y))
 have main : ∀ z : ByteArray, z.size ≤ 1048576 → ∃ s3, S9 (.string s3) ∧ Aw EE 154 [.slice (some ⟨H1.length, 0, some 1⟩) 5 5] (H1 ++ [[.string (Ay [2, a, b]), .string t, .string (T9 x k), .string (Ct y), .string z]]) (.string s3) := fun z hz => by
  have s2 : Dz (H1 ++ [[.string (Ay [2, a, b]), .string t, .string (T9 x k), .string (Ct y), .string z]]) (.slice (some ⟨H1.length, 0, some 1⟩) 5 5) [Ay [2, a, b], t, T9 x k, Ct y, z] := Ml rfl rfl (by simp)
  exact ⟨_, ⟨_, rfl, Cp _⟩, Lo s2 (sz5 (Vh (B2 _)) ht (Vh (O6 _ _)) (Vh (Kw _)) hz)⟩
 simp only [go_sem, Nat.reduceEqDiff, iN]
 cases q : decide (z = ⟨#[]⟩) <;> simp only [go_sem, Nat.reduceEqDiff, q, a150, hw]
 ·obtain ⟨s3, g1, g2⟩ := main z hz
  have a154 := Ax g2
  have P2 : H1 <+: H1 ++ [[.string (Ay [2, a, b]), .string t, .string (T9 x k), .string (Ct y), .string z]] := Eg
  have w2 := w1.pre P2
  refine Af ?_
  simp only [go_sem, Nat.reduceEqDiff, Nat.reduceLeDiff, Nat.reduceMul, hH1, a158, w1, a192, a159, a154, w2]
  refine ⟨by rfl, ?_⟩
  exact ⟨g1, (List.prefix_iff_eq_take.1 (P1.trans P2)).symm⟩
 ·obtain ⟨s3, g1, g2⟩ := main (Ov ⟨#[]⟩) (Vh (Fx _))
  have a154 := Ax g2
  have P2 : H1 <+: H1 ++ [[.string (Ay [2, a, b]), .string t, .string (T9 x k), .string (Ct y), .string (Ov ⟨#[]⟩)]] := Eg
  have w2 := w1.pre P2
  refine Af ?_
  simp only [go_sem, Nat.reduceEqDiff, Nat.reduceLeDiff, Nat.reduceMul, hH1, a158, w1, a192, a159, a154, w2]
  refine ⟨by rfl, ?_⟩
  exact ⟨g1, (List.prefix_iff_eq_take.1 (P1.trans P2)).symm⟩
abbrev rB (x : Cr) : Value := .agg #[.int .i64 x.1, .int .i64 x.2.1, .int .i64 x.2.2.1, .int .i64 x.2.2.2.1, .int .i64 x.2.2.2.2.1.1, .int .i64 x.2.2.2.2.1.2.1, .int .i64 x.2.2.2.2.1.2.2, .string x.2.2.2.2.2]
theorem Abq {H : Hp} {x : Cr} {y : Re} {a : Int} (ht : x.2.2.2.2.2.size ≤ 1048576) : A4 EE 181 [rB x, Ry y, .int .i64 a] H S9 := by
 refine Ar rfl rfl uG (by simp [kL]) fun m hw => ?_
 have P1 : H <+: H ++ [[.int .i64 4, .int .i64 x.2.2.1, .int .i64 a]] := Eg
 have s1 : Bu (H ++ [[.int .i64 4, .int .i64 x.2.2.1, .int .i64 a]]) (.slice (some ⟨H.length, 0, some 1⟩) 3 3) [4, x.2.2.1, a] := I5 rfl rfl (by simp)
 generalize hH1 : H ++ [[.int .i64 4, .int .i64 x.2.2.1, .int .i64 a]] = H1 at *
 have w1 := hw.pre P1
 have a59 := Ax (f59 (H := H) (x := x) (C8 ht (by decide)))
 have a158 := Ax (Mk s1)
 have a192 := Ax (hM (H := H1) (x := y) (k := x.2.2.2.1))
 have P2 : H1 <+: H1 ++ [[.string (Ay [4, x.2.2.1, a]), .string x.2.2.2.2.2, .string (T9 y x.2.2.2.1)]] := Eg
 have s2 : Dz (H1 ++ [[.string (Ay [4, x.2.2.1, a]), .string x.2.2.2.2.2, .string (T9 y x.2.2.2.1)]]) (.slice (some ⟨H1.length, 0, some 1⟩) 3 3) [Ay [4, x.2.2.1, a], x.2.2.2.2.2, T9 y x.2.2.2.1] := Ml rfl rfl (by simp)
 have w2 := w1.pre P2
 have a154 := Ax (Lo s2 (rM (Vh (B2 _)) ht (Vh (O6 _ _))))
 simp only [go_sem, Nat.reduceEqDiff, kL, a59, hw]
 cases q : C4 x <;> simp only [go_sem, Nat.reduceEqDiff, q]
 ·exact ⟨_, rfl, Nat.zero_le _⟩
 refine Af ?_
 simp only [go_sem, Nat.reduceEqDiff, reduceCtorEq, Nat.reduceLeDiff, Nat.reduceMul, hH1, a158, w1, a192, a154, w2]
 refine ⟨by rfl, ?_⟩
 exact ⟨⟨_, rfl, Cp _⟩, (List.prefix_iff_eq_take.1 (P1.trans P2)).symm⟩
def KC (κ : Nat → Nat) (c : Nat) (v : Value) : Prop := ∀ id ∈ Ae v, κ id = c
def C9 {α : Type} (κ : Nat → Nat) (c : Nat) (R : α → List Value → Prop) (esz : Nat) (H : Hp) (v : Value) (l : List α) : Prop := Sl R esz H v l ∧ KC κ c v ∧ Ao 0 v
structure Kh (κ κ' : Nat → Nat) (H H' : Hp) (c : Nat) : Prop where
 len : H.length ≤ H'.length
 col : ∀ j, j < H.length → κ' j = κ j
 row : ∀ j, j < H.length → κ j ≠ c → H'[j]? = H[j]?
theorem C9.keep {α : Type} {κ κ' : Nat → Nat} {c c' : Nat} {R R' : α → List Value → Prop} {esz : Nat} {H H' : Hp} {v : Value} {l : List α} (h : C9 κ c R esz H v l) (k : Kh κ κ' H H' c') (hc : c ≠ c') (hR : ∀ a cs, R a cs → R' a cs) : C9 κ' c R' esz H' v l := by
 have hi := h.1.ids
 refine ⟨h.1.frame (fun a _ cs h => hR a cs h) fun i off e ln cap hv => k.row i (hi i (by subst hv; simp [Ae])) (by rw [h.2.1 i (by subst hv; simp [Ae])]; exact hc), fun id hid => ?_, h.2.2⟩
 rw [k.col id (hi id hid)]
 exact h.2.1 id hid
def Xb (κ : Nat → Nat) (H : Hp) (x : Ch) (cs : List Value) : Prop := ∃ r, cs = [.int .i64 x.1, r] ∧ C9 κ 0 (En Vt) 3 H r x.2
def Sa (κ : Nat → Nat) (H : Hp) (a : I7) (cs : List Value) : Prop := ∃ p v, cs = [.int .i64 a.sv, .int .i64 a.cl, .int .i64 a.ky, .int .i64 a.op, .int .i64 a.nw, .int .i64 a.au.1, .int .i64 a.au.2.1, .int .i64 a.au.2.2, .int .i64 a.rs.1, .int .i64 a.rs.2.1, .int .i64 a.rs.2.2, p, v, .int .i64 a.lk, .string a.tk] ∧ C9 κ 0 (En eI) 1 H p a.pa ∧ C9 κ 0 (En eI) 1 H v a.vi
theorem Xb.keep {κ κ' : Nat → Nat} {c : Nat} {H H' : Hp} (k : Kh κ κ' H H' c) (hc : 0 ≠ c) {x : Ch} {cs : List Value} (h : Xb κ H x cs) : Xb κ' H' x cs := by
 obtain ⟨r, e, h⟩ := h
 exact ⟨r, e, h.keep k hc fun _ _ h => h⟩
theorem Sa.keep {κ κ' : Nat → Nat} {c : Nat} {H H' : Hp} (k : Kh κ κ' H H' c) (hc : 0 ≠ c) {x : I7} {cs : List Value} (h : Sa κ H x cs) : Sa κ' H' x cs := by
 obtain ⟨p, v, e, h1, h2⟩ := h
 exact ⟨p, v, e, h1.keep k hc fun _ _ h => h, h2.keep k hc fun _ _ h => h⟩
structure Rf where
 u : Value
 s : Value
 l : Value
 p : Value
 n : Value
 t : Value
 k : Value
 a : Value
 c : Value
 h : Value
 e : Value
 x : Value
 d : Value
abbrev Mv (w : Wd) (r : Rf) : Value := .agg #[r.u, r.s, r.l, r.p, .int .i64 w.cf.skew, .int .i64 w.now, .int .i64 w.fresh, r.n, r.t, r.k, r.a, r.c, r.h, r.e, r.x, r.d]
structure Eo (ex : Nat) (κ : Nat → Nat) (H : Hp) (w : Wd) (r : Rf) : Prop where
 u : C9 κ 0 (En eI) 1 H r.u w.cf.ur
 s : C9 κ 0 (En eI) 1 H r.s w.cf.sr
 l : C9 κ 0 (En Ud) 2 H r.l w.cf.lk
 p : C9 κ 0 (En Ud) 2 H r.p w.cf.px
 n : ex ≠ 1 → C9 κ 1 (En eS) 1 H r.n w.net
 t : ex ≠ 2 → C9 κ 2 (En eS) 1 H r.t w.tms
 k : ex ≠ 2 → C9 κ 0 (En eI) 1 H r.k w.kys
 a : ex ≠ 3 → C9 κ 3 (En bL) 4 H r.a w.wts
 c : ex ≠ 4 → C9 κ 4 (En T5) 8 H r.c w.crs
 h : ex ≠ 5 → C9 κ 5 (Xb κ H) 2 H r.h w.chs
 e : ex ≠ 6 → C9 κ 6 (En Rt) 11 H r.e w.log
 x : ex ≠ 7 → C9 κ 7 (Sa κ H) 15 H r.x w.acs
 d : ex ≠ 8 → C9 κ 8 (En eI) 1 H r.d w.lks
abbrev He (κ : Nat → Nat) (H : Hp) (w : Wd) (r : Rf) : Prop := Eo 99 κ H w r
theorem Eo.keep {κ κ' : Nat → Nat} {c : Nat} {H H' : Hp} {w : Wd} {r : Rf} (q : He κ H w r) (k : Kh κ κ' H H' c) (hc : 0 ≠ c) : Eo c κ' H' w r where
 u := q.u.keep k hc fun _ _ h => h
 s := q.s.keep k hc fun _ _ h => h
 l := q.l.keep k hc fun _ _ h => h
 p := q.p.keep k hc fun _ _ h => h
 n := fun h => (q.n (by decide)).keep k (Ne.symm h) fun _ _ h => h
 t := fun h => (q.t (by decide)).keep k (Ne.symm h) fun _ _ h => h
 k := fun h => (q.k (by decide)).keep k hc fun _ _ h => h
 a := fun h => (q.a (by decide)).keep k (Ne.symm h) fun _ _ h => h
 c := fun h => (q.c (by decide)).keep k (Ne.symm h) fun _ _ h => h
 h := fun h => (q.h (by decide)).keep k (Ne.symm h) fun _ _ h => h.keep k hc
 e := fun h => (q.e (by decide)).keep k (Ne.symm h) fun _ _ h => h
 x := fun h => (q.x (by decide)).keep k (Ne.symm h) fun _ _ h => h.keep k hc
 d := fun h => (q.d (by decide)).keep k (Ne.symm h) fun _ _ h => h
theorem Eo.fill {ex : Nat} {κ : Nat → Nat} {H : Hp} {w : Wd} {r : Rf} (q : Eo ex κ H w r) (h1 : ex = 1 → C9 κ 1 (En eS) 1 H r.n w.net) (h2 : ex = 2 → C9 κ 2 (En eS) 1 H r.t w.tms ∧ C9 κ 0 (En eI) 1 H r.k w.kys) (h3 : ex = 3 → C9 κ 3 (En bL) 4 H r.a w.wts) (h4 : ex = 4 → C9 κ 4 (En T5) 8 H r.c w.crs)
  (h5 : ex = 5 → C9 κ 5 (Xb κ H) 2 H r.h w.chs) (h6 : ex = 6 → C9 κ 6 (En Rt) 11 H r.e w.log) (h7 : ex = 7 → C9 κ 7 (Sa κ H) 15 H r.x w.acs) (h8 : ex = 8 → C9 κ 8 (En eI) 1 H r.d w.lks) : He κ H w r where
 u := q.u
 s := q.s
 l := q.l
 p := q.p
 n := fun _ => (Decidable.em (ex = 1)).elim h1 q.n
 t := fun _ => (Decidable.em (ex = 2)).elim (fun h => (h2 h).1) q.t
 k := fun _ => (Decidable.em (ex = 2)).elim (fun h => (h2 h).2) q.k
 a := fun _ => (Decidable.em (ex = 3)).elim h3 q.a
 c := fun _ => (Decidable.em (ex = 4)).elim h4 q.c
 h := fun _ => (Decidable.em (ex = 5)).elim h5 q.h
 e := fun _ => (Decidable.em (ex = 6)).elim h6 q.e
 x := fun _ => (Decidable.em (ex = 7)).elim h7 q.x
 d := fun _ => (Decidable.em (ex = 8)).elim h8 q.d
theorem Eo.f1 {κ : Nat → Nat} {H : Hp} {w : Wd} {r : Rf} (q : Eo 1 κ H w r) {v : Value} {L : List ByteArray} (h : C9 κ 1 (En eS) 1 H v L) : He κ H { w with net := L } { r with n := v } :=
 Eo.fill (ex := 1) ⟨q.u, q.s, q.l, q.p, fun h => absurd rfl h, q.t, q.k, q.a, q.c, q.h, q.e, q.x, q.d⟩ (fun _ => h) (fun h => by cases h) (fun h => by cases h) (fun h => by cases h) (fun h => by cases h) (fun h => by cases h) (fun h => by cases h) (fun h => by cases h)
theorem Eo.f2 {κ : Nat → Nat} {H : Hp} {w : Wd} {r : Rf} (q : Eo 2 κ H w r) {v v' : Value} {L : List ByteArray} {L' : List Int} (h : C9 κ 2 (En eS) 1 H v L) (h' : C9 κ 0 (En eI) 1 H v' L') : He κ H { w with tms := L, kys := L' } { r with t := v, k := v' } :=
 Eo.fill (ex := 2) ⟨q.u, q.s, q.l, q.p, q.n, fun h => absurd rfl h, fun h => absurd rfl h, q.a, q.c, q.h, q.e, q.x, q.d⟩ (fun h => by cases h) (fun _ => ⟨h, h'⟩) (fun h => by cases h) (fun h => by cases h) (fun h => by cases h) (fun h => by cases h) (fun h => by cases h) (fun h => by cases h)
theorem Eo.f3 {κ : Nat → Nat} {H : Hp} {w : Wd} {r : Rf} (q : Eo 3 κ H w r) {v : Value} {L : List Wt} (h : C9 κ 3 (En bL) 4 H v L) : He κ H { w with wts := L } { r with a := v } :=
 Eo.fill (ex := 3) ⟨q.u, q.s, q.l, q.p, q.n, q.t, q.k, fun h => absurd rfl h, q.c, q.h, q.e, q.x, q.d⟩ (fun h => by cases h) (fun h => by cases h) (fun _ => h) (fun h => by cases h) (fun h => by cases h) (fun h => by cases h) (fun h => by cases h) (fun h => by cases h)
theorem Eo.f4 {κ : Nat → Nat} {H : Hp} {w : Wd} {r : Rf} (q : Eo 4 κ H w r) {v : Value} {L : List Cr} (h : C9 κ 4 (En T5) 8 H v L) : He κ H { w with crs := L } { r with c := v } :=
 Eo.fill (ex := 4) ⟨q.u, q.s, q.l, q.p, q.n, q.t, q.k, q.a, fun h => absurd rfl h, q.h, q.e, q.x, q.d⟩ (fun h => by cases h) (fun h => by cases h) (fun h => by cases h) (fun _ => h) (fun h => by cases h) (fun h => by cases h) (fun h => by cases h) (fun h => by cases h)
theorem Eo.f5 {κ : Nat → Nat} {H : Hp} {w : Wd} {r : Rf} (q : Eo 5 κ H w r) {v : Value} {L : List Ch} (h : C9 κ 5 (Xb κ H) 2 H v L) : He κ H { w with chs := L } { r with h := v } :=
 Eo.fill (ex := 5) ⟨q.u, q.s, q.l, q.p, q.n, q.t, q.k, q.a, q.c, fun h => absurd rfl h, q.e, q.x, q.d⟩ (fun h => by cases h) (fun h => by cases h) (fun h => by cases h) (fun h => by cases h) (fun _ => h) (fun h => by cases h) (fun h => by cases h) (fun h => by cases h)
theorem Eo.f6 {κ : Nat → Nat} {H : Hp} {w : Wd} {r : Rf} (q : Eo 6 κ H w r) {v : Value} {L : List Pb} (h : C9 κ 6 (En Rt) 11 H v L) : He κ H { w with log := L } { r with e := v } :=
 Eo.fill (ex := 6) ⟨q.u, q.s, q.l, q.p, q.n, q.t, q.k, q.a, q.c, q.h, fun h => absurd rfl h, q.x, q.d⟩ (fun h => by cases h) (fun h => by cases h) (fun h => by cases h) (fun h => by cases h) (fun h => by cases h) (fun _ => h) (fun h => by cases h) (fun h => by cases h)
theorem Eo.f7 {κ : Nat → Nat} {H : Hp} {w : Wd} {r : Rf} (q : Eo 7 κ H w r) {v : Value} {L : List I7} (h : C9 κ 7 (Sa κ H) 15 H v L) : He κ H { w with acs := L } { r with x := v } :=
 Eo.fill (ex := 7) ⟨q.u, q.s, q.l, q.p, q.n, q.t, q.k, q.a, q.c, q.h, q.e, fun h => absurd rfl h, q.d⟩ (fun h => by cases h) (fun h => by cases h) (fun h => by cases h) (fun h => by cases h) (fun h => by cases h) (fun h => by cases h) (fun _ => h) (fun h => by cases h)
theorem Eo.f8 {κ : Nat → Nat} {H : Hp} {w : Wd} {r : Rf} (q : Eo 8 κ H w r) {v : Value} {L : List Int} (h : C9 κ 8 (En eI) 1 H v L) : He κ H { w with lks := L } { r with d := v } :=
 Eo.fill (ex := 8) ⟨q.u, q.s, q.l, q.p, q.n, q.t, q.k, q.a, q.c, q.h, q.e, q.x, fun h => absurd rfl h⟩ (fun h => by cases h) (fun h => by cases h) (fun h => by cases h) (fun h => by cases h) (fun h => by cases h) (fun h => by cases h) (fun h => by cases h) (fun _ => h)
theorem Eo.base {κ : Nat → Nat} {H : Hp} {w : Wd} {r : Rf} (q : He κ H w r) : T7 H w r.u r.s r.l r.p r.n r.t r.k r.a r.c r.h r.e r.x r.d where
 cf := ⟨q.u.1, q.s.1, q.l.1, q.p.1⟩
 net := (q.n (by decide)).1
 tms := (q.t (by decide)).1
 kys := (q.k (by decide)).1
 wts := (q.a (by decide)).1
 crs := (q.c (by decide)).1
 chs := (q.h (by decide)).1.frame (fun _ _ _ h => let ⟨a, b, c⟩ := h; ⟨a, b, c.1⟩) (fun _ _ _ _ _ _ => rfl)
 log := (q.e (by decide)).1
 acs := (q.x (by decide)).1.frame (fun _ _ _ h => let ⟨a, b, c, d, e⟩ := h; ⟨a, b, c, d.1, e.1⟩) (fun _ _ _ _ _ _ => rfl)
 lks := (q.d (by decide)).1
def Cm (κ : Nat → Nat) (n c : Nat) : Nat → Nat := fun j => if j < n then κ j else c
theorem A2 {κ : Nat → Nat} {n c j : Nat} (h : j < n) : Cm κ n c j = κ j := if_pos h
theorem Gp {κ : Nat → Nat} {n c j : Nat} (h : n ≤ j) : Cm κ n c j = c := if_neg (by omega)
theorem Kh.pre {κ : Nat → Nat} {H H' : Hp} (h : H <+: H') (c : Nat) : Kh κ (Cm κ H.length c) H H' 99 := ⟨h.length_le, fun _ h => A2 h, fun j hj _ => Ed h hj⟩
theorem Kh.app {κ : Nat → Nat} {H H' : Hp} {v : Value} {c : Nat} (hv : KC κ c v) (h1 : ∀ j, j < H.length → j ∉ Ae v → H'[j]? = H[j]?) (h2 : H.length ≤ H'.length) : Kh κ (Cm κ H.length c) H H' c :=
 ⟨h2, fun _ h => A2 h, fun j hj hc => h1 j hj fun hm => hc (hv j hm)⟩
theorem KC.app {κ : Nat → Nat} {H : Hp} {v v' : Value} {c : Nat} (hv : KC κ c v) (hi : ∀ id ∈ Ae v, id < H.length) (h : ∀ j ∈ Ae v', j ∈ Ae v ∨ H.length ≤ j) : KC (Cm κ H.length c) c v' := fun id hid => by
 rcases h id hid with h | h
 ·rw [A2 (hi id h)]; exact hv id h
 ·exact Gp h
structure Fr (κ κ' : Nat → Nat) (H H' : Hp) : Prop where
 len : H.length ≤ H'.length
 col : ∀ j, j < H.length → κ' j = κ j
 row : ∀ j, j < H.length → κ j = 0 ∨ 8 < κ j → H'[j]? = H[j]?
theorem Kh.fr {κ κ' : Nat → Nat} {H H' : Hp} {c : Nat} (k : Kh κ κ' H H' c) (hc : (1 ≤ c ∧ c ≤ 8) ∨ ∀ j, j < H.length → κ j ≠ c) : Fr κ κ' H H' :=
 ⟨k.len, k.col, fun j hj h => k.row j hj fun e => by rcases hc with h2 | h2; omega; exact h2 j hj e⟩
theorem Fr.pre {κ : Nat → Nat} {H H' : Hp} (h : H <+: H') (c : Nat) : Fr κ (Cm κ H.length c) H H' := ⟨h.length_le, fun _ h => A2 h, fun j hj _ => Ed h hj⟩
theorem Fr.refl (κ : Nat → Nat) (H : Hp) : Fr κ κ H H := ⟨Nat.le_refl _, fun _ _ => rfl, fun _ _ _ => rfl⟩
theorem Fr.trans {κ κ' κ'' : Nat → Nat} {H H' H'' : Hp} (a : Fr κ κ' H H') (b : Fr κ' κ'' H' H'') : Fr κ κ'' H H'' :=
 ⟨C8 a.len b.len, fun j h => by rw [b.col j (J3 h a.len), a.col j h], fun j h hc => by rw [b.row j (J3 h a.len) (by rw [a.col j h]; exact hc), a.row j h hc]⟩
theorem C9.fr {α : Type} {κ κ' : Nat → Nat} {c : Nat} {R : α → List Value → Prop} {esz : Nat} {H H' : Hp} {v : Value} {l : List α} (h : C9 κ c R esz H v l) (k : Fr κ κ' H H') (hc : c = 0 ∨ 8 < c) : C9 κ' c R esz H' v l := by
 have hi := h.1.ids
 refine ⟨h.1.frame (fun _ _ _ h => h) fun i off e ln cap hv => k.row i (hi i (by subst hv; simp [Ae])) (by rw [h.2.1 i (by subst hv; simp [Ae])]; exact hc), fun id hid => ?_, h.2.2⟩
 rw [k.col id (hi id hid)]
 exact h.2.1 id hid
def Be (r : Rf) : List Value := [r.n, r.t, r.a, r.c, r.h, r.e, r.x, r.d]
def MW (m : Md) (r : Rf) : Prop := ∀ v ∈ Be r, ∀ id ∈ Ae v, m.wr id = true
def G8 (n : Nat) (r f : Rf) : Prop := ∀ v ∈ Be f, ∀ id ∈ Ae v, n ≤ id ∨ ∃ u ∈ Be r, id ∈ Ae u
theorem G8.refl (n : Nat) (r : Rf) : G8 n r r := fun v hv id hid => .inr ⟨v, hv, hid⟩
theorem G8.trans {n n' : Nat} {a b c : Rf} (h : G8 n a b) (k : G8 n' b c) (hn : n ≤ n') : G8 n a c := fun v hv id hid => by
 rcases k v hv id hid with h1 | ⟨u, hu, h1⟩
 ·exact .inl (by omega)
 ·exact h u hu id h1
theorem MW.sub {m : Md} {H : Hp} {r f : Rf} (h : MW m r) (hw : Wr m H) (s : G8 H.length r f) : MW m f := fun v hv id hid => by
 rcases s v hv id hid with h1 | ⟨u, hu, h1⟩
 ·exact hw id h1
 ·exact h u hu id h1
theorem G8.one {n : Nat} {r f : Rf} (v : Value) (h : ∀ u ∈ Be f, u ∈ Be r ∨ u = v) (hv : ∃ u ∈ Be r, ∀ j ∈ Ae v, j ∈ Ae u ∨ n ≤ j) : G8 n r f := fun u hu id hid => by
 rcases h u hu with h1 | rfl
 ·exact .inr ⟨u, h1, hid⟩
 ·obtain ⟨w, hw, hv⟩ := hv
  rcases hv id hid with h2 | h2
  ·exact .inr ⟨w, hw, h2⟩
  ·exact .inl h2
structure Pe (w : Wd) : Prop where
 wl : w.wts.length = 6
 cl : w.chs.length = 3
 net : ∀ z ∈ w.net, z.size ≤ 1000
 tms : ∀ z ∈ w.tms, z.size ≤ 1000
 tl : w.tms.length ≤ 60
 crs : ∀ z ∈ w.crs, z.2.2.2.2.2.size ≤ 1000 ∧ X5 z.2.2.1
 acs : ∀ z ∈ w.acs, z.tk.size ≤ 1000
 bd : w.net.length ≤ 50 ∧ w.crs.length ≤ 30 ∧ w.log.length ≤ 40 ∧ w.acs.length ≤ 40 ∧ w.lks.length ≤ 40
theorem Eo.vcs {κ : Nat → Nat} {H : Hp} {w : Wd} {r : Rf} (q : He κ H w r) : vc r.u = some [r.u] ∧ vc r.s = some [r.s] ∧ vc r.l = some [r.l] ∧ vc r.p = some [r.p] ∧ vc r.n = some [r.n] ∧ vc r.t = some [r.t] ∧ vc r.k = some [r.k] ∧ vc r.a = some [r.a] ∧ vc r.c = some [r.c] ∧ vc r.h = some [r.h] ∧ vc r.e = some [r.e] ∧ vc r.x = some [r.x] ∧ vc r.d = some [r.d] := q.base.vcs
def LsR (H : Hp) (tv kv : Value) (T : List ByteArray) (r : Value) (H' : Hp) : Prop :=
 ∃ tv' T', r = .agg #[tv', kv] ∧ Dz H' tv' T' ∧ (∀ z ∈ T', z ∈ T ∨ z.size ≤ 1000) ∧ (T'.length ≤ 60 ∨ T' = T) ∧ H.length ≤ H'.length ∧ (∀ j, j < H.length → j ∉ Ae tv → H'[j]? = H[j]?) ∧ (∀ j ∈ Ae tv', j ∈ Ae tv ∨ H.length ≤ j) ∧ Ao 0 tv'
theorem Sl.oneS3 {m : Md} {H : Hp} {v : Value} {l : List ByteArray} (a : ByteArray) (h : Dz H v l) (ho : Ao 0 v) (hw0 : Wr m H) (hw : ∀ id ∈ Ae v, m.wr id = true) (hb : l.length ≤ 100000010) :
  ∃ v' H', (∀ (s : St) (x y : X), s.H = H → Av s.ρ x = some v → ex s.ρ y = .vs 1 [.string a] → Ce m s 1 16 x y = some (.val v', { s with H := H' })) ∧ Dz H' v' (l ++ [a]) ∧
   (∀ j, j < H.length → j ∉ Ae v → H'[j]? = H[j]?) ∧ H.length ≤ H'.length ∧ (∀ j ∈ Ae v', j ∈ Ae v ∨ H.length ≤ j) ∧ Ao 0 v' := by
 obtain ⟨v', H', a1, a2, a3, a4, a5, a6, a7⟩ := h.oneS2 (m := Wb m) (N := 0) a ho (Nat.zero_le _) (fun _ _ => rfl) hb
 refine ⟨v', H', fun s x y hH hx hy => ?_, a2, a4, a5, a6, a3⟩
 rw [Vz (m := m) (m2 := Wb m) rfl hx hw fun _ _ => rfl]
 exact a1 s x y hH hx hy
theorem pK {m : Md} {H : Hp} {tv kv : Value} {T : List ByteArray} {K : List Int} {x : ByteArray} (ht : Dz H tv T) (ho : Ao 0 tv) (hk : Bu H kv K) (hx : x.size ≤ 1000) (hw0 : Wr m H) (hw : ∀ id ∈ Ae tv, m.wr id = true) :
  Ci EE m 203 [.agg #[tv, kv], .string x] H fun r H' => LsR H tv kv T r H' := by
 refine Bt rfl rfl Aaa (by simp [jD]) ?_
 have a57 := Ax (X6 (H := H) (s := x) (by omega))
 have a98 := Ax (cL (a := x) ht)
 have same : LsR H tv kv T (.agg #[tv, kv]) H := ⟨tv, T, rfl, ht, fun z h => .inl h, .inr rfl, Nat.le_refl _, fun _ _ _ => rfl, fun _ h => .inl h, ho⟩
 simp only [go_sem, Nat.reduceEqDiff, reduceCtorEq, jD, ht.vc, hk.vc, a57, hw0]
 cases q1 : Ej x <;> simp only [go_sem, Nat.reduceEqDiff, reduceCtorEq, q1, ht.vc, hk.vc]
 ·exact same
 simp only [go_sem, Nat.reduceEqDiff, reduceCtorEq, a98, hw0]
 cases q2 : Pn x T <;> simp only [go_sem, Nat.reduceEqDiff, reduceCtorEq, q2, ht.vc, hk.vc, ht.len]
 ·cases q3 : decide ((T.length : Int) < 60) <;> simp only [go_sem, Nat.reduceEqDiff, reduceCtorEq, q3, ht.vc, hk.vc]
  ·exact same
  have q3 := As q3
  obtain ⟨v', H', a1, a2, a3, a4, a5, a6⟩ := ht.oneS3 (m := m) x ho hw0 hw (by omega)
  rw [a1]
  rotate_left
  ·rfl
  ·rfl
  ·rfl
  simp only [go_sem, Nat.reduceEqDiff, Nat.reduceLeDiff, a2.vc, hk.vc]
  exact ⟨v', _, rfl, a2, fun z hz => by rcases Lh hz with h | h; exact .inl h; rw [bJ h]; exact .inr hx, .inl (by simp; omega), a4, a3, a5, a6⟩
 ·exact same
def zT : Wl := ⟨0, 0, 0, (0, 0, 0), [], []⟩
def ShR (H : Hp) (r : Value) (H' : Hp) : Prop := ∃ (t : Wl) (p v : Value) (n : Int) (b : Bool), r = .tuple #[gM t p v, .int .i64 n, .bool b] ∧ H <+: H' ∧ Bu H' p t.pa ∧ Bu H' v t.vi ∧ Ao H.length p ∧ Ao H.length v ∧ (b = true → Hr t = true ∧ -1 ≤ n ∧ n ≤ 2)
theorem xG {m : Md} {H : Hp} {c : Ic} {u s l p : Value} (hc : K5 H c u s l p) {b : Int} {t : ByteArray} (ht : t.size ≤ 4611686018427387904) (hw : Wr m H) : Ci EE m 221 [T3 c u s l p, .int .i64 b, .string t] H fun r H' => ShR H r H' := by
 refine Bt rfl rfl yC (by simp [iE]) ?_
 obtain ⟨v1, v2, v3, v4⟩ := hc.vcs
 simp only [go_sem, Nat.reduceEqDiff, iE, v1, v2, v3, v4]
 refine Aa (fun m' h => jS (a := b) m' h) rfl hw fun r1 H1 ⟨⟨x1, e1⟩, e2⟩ => ?_
 subst e1; subst e2
 simp only [go_sem, Nat.reduceEqDiff]
 refine Aa (fun m' h => Zc (k := x1) ht h) rfl hw fun r2 H2 ⟨T, pv, vv, b0, e2, p2, sp, sv, op, ov, hb⟩ => ?_
 subst e2
 have p2 : H1 <+: H2 := p2
 have op : Ao H1.length pv := op
 have ov : Ao H1.length vv := ov
 have V1 := sp.vc
 have V2 := sv.vc
 simp only [go_sem, Nat.reduceEqDiff, reduceCtorEq, List.getElem?_toArray, Bd, V1, V2]
 cases b0 <;> cases q : decide (T.sv = IntKind.i64.wrap (10 + b)) <;> simp only [go_sem, Nat.reduceEqDiff, reduceCtorEq, q, V1, V2]
 rotate_left 3
 ·exact ⟨T, pv, vv, -1, true, rfl, p2, sp, sv, op, ov, fun _ => ⟨hb rfl, by omega, by omega⟩⟩
 all_goals
  refine Ak 3 (fun i t' => H1 <+: t'.H ∧ (∃ g, t'.ρ 3 = .bx g [u, s, l, p, .int .i64 c.skew]) ∧ t'.ρ 1 = .val (.int .i64 b) ∧ t'.ρ 2 = .val (.string t) ∧ (∃ g, t'.ρ 6 = .bx g [.int .i64 0, .int .i64 0, .int .i64 0, .int .i64 0, .int .i64 0, .int .i64 0, .slice none 0 0, .slice none 0 0]) ∧ t'.ρ 11 = .val (.int .i64 i))
   (fun t' => H1 <+: t'.H ∧ ∃ g, t'.ρ 6 = .bx g [.int .i64 0, .int .i64 0, .int .i64 0, .int .i64 0, .int .i64 0, .int .i64 0, .slice none 0 0, .slice none 0 0]) ?_ ?_ ?_
  ·exact ⟨p2, ⟨1, by simp [Ah]⟩, by simp [Ah, Cb], by simp [Ah, Cb], ⟨2, by simp [Ah]⟩, by simp [Ah]⟩
  ·clear op ov V1 V2 sp sv p2
   rintro i t' hi ⟨kH, ⟨g3, k3⟩, k1, k2, ⟨g6, k6⟩, Rc⟩
   have hw1 := hw.pre kH
   have hlk := hc.lk.pre kH
   have a139 := Ax (bP hlk (x := ((i : Int), b)))
   simp only [go_sem, Nat.reduceEqDiff, reduceCtorEq, k1, k2, k3, k6, Rc]
   cases q : decide ((i : Int) < 3) <;> simp only [go_sem, Nat.reduceEqDiff, reduceCtorEq, Nat.reduceLeDiff, k1, k2, k3, k6, Rc, q, v1, v2, v3, v4, a139, hw1]
   ·exact ⟨kH, ⟨_, rfl⟩⟩
   have hil : i < 3 := by have := As q; omega
   have w1 := Ab ((i : Int) + 1) (by omega) (by omega)
   cases b1 : c.lk.any (Kb · ((i : Int), b)) <;> simp only [go_sem, Nat.reduceEqDiff, reduceCtorEq, Nat.reduceLeDiff, k1, k2, k3, k6, Rc, w1]
   ·exact ⟨hil, kH, ⟨_, rfl⟩, ⟨_, rfl⟩, by simp⟩
   refine Aa (fun m' h => jG (a := (i : Int)) (b := b) m' h) rfl hw1 fun r3 H3 ⟨⟨x3, e3⟩, e4⟩ => ?_
   subst e3; subst e4
   simp only [go_sem, Nat.reduceEqDiff, reduceCtorEq, k1, k2, k3, k6, Rc]
   refine Aa (fun m' h => Zc (k := x3) ht h) rfl hw1 fun r4 H4 ⟨T, pv, vv, b0, e4, p4, sp, sv, op, ov, hb⟩ => ?_
   subst e4
   have p4 : t'.H <+: H4 := p4
   have op : Ao t'.H.length pv := op
   have ov : Ao t'.H.length vv := ov
   have V1 := sp.vc
   have V2 := sv.vc
   have pp := kH.trans p4
   have nn := kH.length_le
   simp only [go_sem, Nat.reduceEqDiff, reduceCtorEq, List.getElem?_toArray, Bd, V1, V2, k1, k2, k3, k6, Rc]
   cases b0 <;> cases q : decide (T.sv = IntKind.i64.wrap (10 + b)) <;> simp only [go_sem, Nat.reduceEqDiff, reduceCtorEq, q, V1, V2, k1, k2, k3, k6, Rc, w1]
   rotate_left 3
   ·exact ⟨T, pv, vv, i, true, rfl, pp, sp, sv, op.mono nn, ov.mono nn, fun _ => ⟨hb rfl, by omega, by omega⟩⟩
   all_goals exact ⟨hil, pp, ⟨_, rfl⟩, ⟨_, rfl⟩, by simp⟩
  ·rintro t' ⟨kH, ⟨g6, k6⟩⟩
   simp only [go_sem, Nat.reduceEqDiff, k6]
   exact ⟨zT, _, _, -1, false, rfl, kH, Bl, Bl, .inl rfl, .inl rfl, fun h => by cases h⟩
def EvR (H : Hp) (r : Value) (H' : Hp) : Prop := ∃ (t : Wl) (p v : Value) (n : Int), r = .tuple #[gM t p v, .int .i64 n] ∧ H <+: H' ∧ Bu H' p t.pa ∧ Bu H' v t.vi
theorem wG {m : Md} {H : Hp} {c : Ic} {u s l p : Value} (hc : K5 H c u s l p) (cp : rC c) {b w k : Int} {T U : Wl} {pT vT pU vU : Value} {x : Re} {t : ByteArray} (ht : t.size ≤ 4611686018427387904) (hT : 0 ≤ T.cl ∧ T.cl ≤ 5) (vt : vc pT = some [pT] ∧ vc vT = some [vT]) (hpU : Bu H pU U.pa) (hvU : Bu H vU U.vi) (hk : 0 ≤ k ∧ k ≤ 2) (hw : Wr m H) :
  Ci EE m 223 [T3 c u s l p, .int .i64 b, .int .i64 w, gM T pT vT, .int .i64 k, Ry x, .string t, gM U pU vU] H fun r H' => EvR H r H' := by
 refine Bt rfl rfl zD (by simp [mU]) ?_
 obtain ⟨v1, v2, v3, v4⟩ := hc.vcs
 obtain ⟨v5, v6⟩ := vt
 have v7 := hpU.vc
 have v8 := hvU.vc
 have no : ∀ {H' : Hp} (n : Int), H <+: H' → EvR H (.tuple #[gM U pU vU, .int .i64 n]) H' := fun n h => ⟨U, _, _, n, rfl, h, hpU.pre h, hvU.pre h⟩
 have w3 := Ab (T.cl - 3) (by omega) (by omega)
 simp only [go_sem, Nat.reduceEqDiff, reduceCtorEq, mU, v1, v2, v3, v4, v5, v6, v7, v8, w3]
 cases q : decide (T.cl - 3 < 0) <;> simp only [go_sem, Nat.reduceEqDiff, reduceCtorEq, q, v1, v2, v3, v4, v5, v6, v7, v8]
 rotate_left
 ·exact no 6 (List.prefix_refl _)
 have q := Au q
 obtain ⟨y1, i1, q1, o1, m1, ho1, hr1, ha1⟩ := hc.sr.intI (n := T.cl - 3) (by omega) (by have := cp.sl; omega)
 simp only [go_sem, Nat.reduceEqDiff, reduceCtorEq, ha1, ho1, hr1]
 cases q2 : decide (y1 = b) <;> simp only [go_sem, Nat.reduceEqDiff, reduceCtorEq, q2, v7, v8]
 ·exact no 6 (List.prefix_refl _)
 obtain ⟨y2, i2, q2, o2, m2, ho2, hr2, ha2⟩ := hc.sr.intI (n := k) hk.1 (by have := cp.sl; omega)
 simp only [go_sem, Nat.reduceEqDiff, reduceCtorEq, ha2, ho2, hr2]
 cases q3 : decide (y2 = b) <;> simp only [go_sem, Nat.reduceEqDiff, reduceCtorEq, q3, v7, v8]
 ·exact no 6 (List.prefix_refl _)
 refine Aa (fun m' h => Ra (a := T.cl) m' h) rfl hw fun r1 H1 ⟨⟨x1, e1⟩, e2⟩ => ?_
 subst e1; subst e2
 simp only [go_sem, Nat.reduceEqDiff, reduceCtorEq]
 refine Aa (fun m' h => Zc (k := x1) ht h) rfl hw fun r2 H2 ⟨V, pv, vv, b0, e2, p2, sp, sv, op, ov, hb⟩ => ?_
 subst e2
 have p2 : H1 <+: H2 := p2
 have V1 := sp.vc
 have V2 := sv.vc
 have hw2 := hw.pre p2
 simp only [go_sem, Nat.reduceEqDiff, reduceCtorEq, List.getElem?_toArray, Bd, V1, V2, v7, v8]
 cases b0 <;> simp only [go_sem, Nat.reduceEqDiff, reduceCtorEq, v7, v8, V1, V2]
 ·exact no 1 p2
 cases q4 : decide (V.sv = T.cl - 3) <;> simp only [go_sem, Nat.reduceEqDiff, reduceCtorEq, q4, v7, v8, V1, V2]
 ·exact no 1 p2
 cases q5 : decide (w > V.rs.2.2) <;> simp only [go_sem, Nat.reduceEqDiff, reduceCtorEq, Nat.reduceLeDiff, q5, v1, v2, v3, v4, v5, v6, v7, v8, V1, V2]
 rotate_left
 ·exact no 4 p2
 have hpx := hc.px.pre p2
 have a139 := Ax (bP hpx (x := (T.cl - 3, k)))
 simp only [go_sem, Nat.reduceEqDiff, reduceCtorEq, Nat.reduceLeDiff, a139, hw2]
 cases q6 : c.px.any (Kb · (T.cl - 3, k)) <;> simp only [go_sem, Nat.reduceEqDiff, reduceCtorEq, Nat.reduceLeDiff, q6, v7, v8, V1, V2, sv.len]
 ·exact no 6 p2
 cases q7 : decide ((V.vi.length : Int) ≥ 4) <;> simp only [go_sem, Nat.reduceEqDiff, reduceCtorEq, Nat.reduceLeDiff, q7, v7, v8, V1, V2]
 rotate_left
 ·exact no 6 p2
 have q7 := Au q7
 refine Aa (fun m' h => pH (x := V.rs) (y := x) m' h) rfl hw2 fun r3 H3 ⟨⟨z, e3⟩, e4⟩ => ?_
 subst e3; subst e4
 have p0 : H3 <+: H3 ++ [[]] := Eg
 have s0 : Bu (H3 ++ [[]]) (.slice (some ⟨H3.length, 0, some 1⟩) 0 (0 * 1)) [] := Eb
 have o0 : Ao H3.length (.slice (some ⟨H3.length, 0, some 1⟩) 0 (0 * 1)) := .inr ⟨_, _, _, _, rfl, Nat.le_refl _⟩
 generalize hwv : Value.slice (some ⟨H3.length, 0, some 1⟩) 0 (0 * 1) = wv0 at s0 o0
 obtain ⟨tv, H5, a1, a2, a3, a4, a5, a6, a7⟩ := s0.join (m := m) (N := H3.length) (bytes := 8) (sv.pre p0) (fun _ => rfl) (by omega) o0 p0.length_le hw2 (by unfold Ev.room; simp; omega) (by unfold Ev.room; simp; omega)
 have p5 := a7 H3 (Nat.le_refl _) p0
 have a2 : Bu H5 tv V.vi := by simpa using a2
 obtain ⟨u2, H6, d1, d2, d3, d4, d5, d6, d7⟩ := a2.oneI2 (m := m) (T.cl - 3) a3 p5.length_le hw2 (by omega)
 have p6 := d7 H3 (Nat.le_refl _) p5
 have V9 := d2.vc
 have V3 := a2.vc
 simp only [go_sem, Nat.reduceEqDiff, reduceCtorEq, Nat.reduceLeDiff, v7, v8, V1, V2, Ba, hwv]
 rw [a1]
 rotate_left
 ·rfl
 ·rfl
 ·rfl
 simp only [go_sem, Nat.reduceEqDiff, v7, v8, V1, V2, V3]
 rw [d1]
 rotate_left
 ·rfl
 ·rfl
 ·rfl
 simp only [go_sem, Nat.reduceEqDiff, v7, v8, V1, V2, V9]
 exact ⟨⟨V.cl, U.sv, U.ky, z, V.pa, V.vi ++ [T.cl - 3]⟩, pv, u2, 0, rfl, p2.trans p6, sp.pre p6, d2⟩
theorem oU {t : Wl} (h : Hr t = true) : (0 ≤ t.cl ∧ t.cl ≤ 5) ∧ t.pa.length ≤ 6 ∧ t.vi.length ≤ 4 ∧ Qf t.sv = true := by
 simp only [Hr, Kf, Bool.and_eq_true, decide_eq_true_eq] at h
 obtain ⟨h1, h2, h3, h4, ⟨h5, h6⟩, h7, h8⟩ := h
 exact ⟨Bz.1 h1, h6, h8, h2⟩
theorem wB {H : Hp} {c : Ic} {u s l p : Value} (hc : K5 H c u s l p) (cp : rC c) {b w k n no : Int} {v : Value} {L : List ByteArray} (hv : Dz H v L) (hL : L.length = 4) (hz : ∀ x ∈ L, x.size ≤ 4611686018427387904) : A4 EE 207 [T3 c u s l p, .int .i64 b, .int .i64 w, .int .i64 k, .int .i64 n, .int .i64 no, v] H dF := by
 refine Ar rfl rfl vO (by simp [kZ]) fun m hw => ?_
 obtain ⟨v1, v2, v3, v4⟩ := hc.vcs
 have fl : ∀ {H2 : Hp} (a : Int), H <+: H2 → A8 (fM a) = true ∧ dF (fM a) ∧ H2.take H.length = H := fun a h => ⟨rfl, Yj a, (List.prefix_iff_eq_take.1 h).symm⟩
 obtain ⟨x2, i2, q2, o2, m2, h2, r2, a2⟩ := hv.str0 (n := 2) (k := 2) rfl (by omega)
 obtain ⟨x0, i0, q0, o0, m0, h0, r0, a0⟩ := hv.str0 (n := 0) (k := 0) rfl (by omega)
 have z0 := hz x0 m0
 have z2 := hz x2 m2
 simp only [go_sem, ↓reduceIte, Nat.reduceEqDiff, reduceCtorEq, kZ, v1, v2, v3, v4, hv.vc, a2, h2, r2]
 refine Aa (fun m' h => jM (s := x2) z2 m' h) rfl hw fun r3 H3 ⟨⟨xr, br, e3, hbr⟩, e4⟩ => ?_
 subst e3; subst e4
 simp only [go_sem, ↓reduceIte, Nat.reduceEqDiff, reduceCtorEq, List.getElem?_toArray, Bd]
 refine Af ?_
 simp only [go_sem, ↓reduceIte, Nat.reduceEqDiff, reduceCtorEq, v1, v2, v3, v4, a0, h0, r0]
 refine Aa (fun m' h => xG hc (b := b) (t := x0) z0 h) rfl hw fun r4 H4 ⟨T, pv, vv, g, b0, e4, p4, sp, sv, op, ov, hb⟩ => ?_
 subst e4
 have V1 := sp.vc
 have V2 := sv.vc
 simp only [go_sem, ↓reduceIte, Nat.reduceEqDiff, reduceCtorEq, List.getElem?_toArray, Bd, V1, V2]
 refine ⟨by rfl, ?_⟩
 have p4 : H3 <+: H4 := p4
 have hw4 := hw.pre p4
 have b204 := fun {a m draw t d ts Q} => Bw (m := m) (draw := draw) (s := t) (d := d) (ts := ts) (Q := Q) (Tn (H := H4) (a := a))
 cases q : decide (n < 0) <;> simp only [go_sem, ↓reduceIte, Nat.reduceEqDiff, reduceCtorEq, q, b204, hw4]
 rotate_left
 ·exact fl 1 p4
 have q := Au q
 cases q3 : decide (n ≥ 3) <;> simp only [go_sem, ↓reduceIte, Nat.reduceEqDiff, reduceCtorEq, q3, b204, hw4]
 rotate_left
 ·exact fl 1 p4
 have q3 := Au q3
 cases br <;> simp only [go_sem, ↓reduceIte, Nat.reduceEqDiff, reduceCtorEq, b204, hw4]
 ·exact fl 1 p4
 cases b0 <;> simp only [go_sem, ↓reduceIte, Nat.reduceEqDiff, reduceCtorEq, b204, hw4, V1, V2]
 ·exact fl 1 p4
 obtain ⟨hT, hg1, hg2⟩ := hb rfl
 obtain ⟨hcl, hpa, hvi, hsv⟩ := oU hT
 have hv4 := hv.pre p4
 obtain ⟨x1, i1, q1, o1, m1, h1, r1, a1⟩ := hv4.str0 (n := 1) (k := 1) rfl (by omega)
 refine Af ?_
 simp only [go_sem, ↓reduceIte, Nat.reduceEqDiff, reduceCtorEq, V1, V2, a1, h1, r1]
 refine Aa (fun m' h => qF (s := x1) (k := T.ky) (hz x1 m1) m' h) rfl hw4 fun r3 H5 ⟨⟨xa, ba, e3⟩, e5⟩ => ?_
 subst e3; subst e5
 simp only [go_sem, ↓reduceIte, Nat.reduceEqDiff, reduceCtorEq, List.getElem?_toArray, Bd]
 refine ⟨by rfl, ?_⟩
 cases ba <;> simp only [go_sem, ↓reduceIte, Nat.reduceEqDiff, reduceCtorEq, V1, V2, b204, hw4, v1, v2, v3, v4]
 ·exact fl 2 p4
 cases q6 : decide (xa.1 = T.cl) <;> simp only [go_sem, ↓reduceIte, Nat.reduceEqDiff, reduceCtorEq, q6, b204, hw4, v1, v2, v3, v4]
 ·exact fl 2 p4
 refine Aa (fun m' h => fU (a := w) (b := xa.2.1) (c := c.skew) m' h) rfl hw4 fun r3 H6 ⟨⟨x3, e1⟩, e3⟩ => ?_
 subst e1; subst e3
 cases x3
 rotate_left
 ·simp only [go_sem, ↓reduceIte, Nat.reduceEqDiff, reduceCtorEq, b204, hw4, V1, V2]
  exact fl 3 p4
 have p0 : H6 <+: H6 ++ [[]] := Eg
 have s0 : Bu (H6 ++ [[]]) (.slice (some ⟨H6.length, 0, some 1⟩) 0 (0 * 1)) [] := Eb
 have o0 : Ao H6.length (.slice (some ⟨H6.length, 0, some 1⟩) 0 (0 * 1)) := .inr ⟨_, _, _, _, rfl, Nat.le_refl _⟩
 generalize hwv : Value.slice (some ⟨H6.length, 0, some 1⟩) 0 (0 * 1) = wv0 at s0 o0
 obtain ⟨tv, H7, a5, a6, a7, a8, a9, a10, a11⟩ := s0.join (m := m) (N := H6.length) (bytes := 8) (sp.pre p0) (fun _ => rfl) (by omega) o0 p0.length_le hw4 (by unfold Ev.room; simp; omega) (by unfold Ev.room; simp; omega)
 have p7 := a11 H6 (Nat.le_refl _) p0
 have a6 : Bu H7 tv T.pa := by simpa using a6
 obtain ⟨u2, H8, d1, d2, d3, d4, d5, d6, d7⟩ := a6.oneI2 (m := m) g a7 p7.length_le hw4 (by omega)
 have p8 := d7 H6 (Nat.le_refl _) p7
 have V8 := d2.vc
 have V7 := a6.vc
 cases q8 : decide (w > T.rs.2.2) <;> simp only [go_sem, ↓reduceIte, Nat.reduceEqDiff, reduceCtorEq, q8, b204, hw4, V1, V2, Ba, hwv]
 rotate_left
 ·exact fl 4 p4
 rw [a5]
 rotate_left
 ·rfl
 ·rfl
 ·rfl
 simp only [go_sem, ↓reduceIte, Nat.reduceEqDiff, reduceCtorEq, V1, V2, V7]
 have F1 : H6 <+: H7 := p7
 have F2 : H6 <+: H8 := p8
 refine Bq (fun t' => H6 <+: t'.H ∧ t'.ρ 1 = .val (.int .i64 b) ∧ t'.ρ 2 = .val (.int .i64 w) ∧ t'.ρ 3 = .val (.int .i64 k) ∧ t'.ρ 4 = .val (.int .i64 n) ∧ t'.ρ 5 = .val (.int .i64 no) ∧ t'.ρ 6 = .val v ∧ (∃ g, t'.ρ 7 = .bx g [u, s, l, p, .int .i64 c.skew]) ∧ (∃ g, t'.ρ 14 = .bx g (Bn 1 [.int .i64 0, .string ⟨#[]⟩, .int .i64 0, .int .i64 0, .int .i64 0, .int .i64 0, .int .i64 0, .int .i64 0, .int .i64 0, .int .i64 0, .int .i64 0, .int .i64 0, .int .i64 0])) ∧ (∃ g, t'.ρ 15 = .bx g [.int .i64 xr.1, .int .i64 xr.2.1, .int .i64 xr.2.2]) ∧ (∃ g, t'.ρ 17 = .bx g [.int .i64 T.cl, .int .i64 T.sv, .int .i64 T.ky, .int .i64 T.rs.1, .int .i64 T.rs.2.1, .int .i64 T.rs.2.2, pv, vv]) ∧ ∃ tv l, t'.ρ 22 = .val tv ∧ Bu t'.H tv l) (fun h => ?_) (fun h => ?_) ?_
 ·simp only [go_sem, ↓reduceIte, Nat.reduceEqDiff, reduceCtorEq]
  rw [d1]
  rotate_left
  ·rfl
  ·rfl
  ·rfl
  simp only [go_sem, ↓reduceIte, Nat.reduceEqDiff, reduceCtorEq, C7]
  exact ⟨F2, ⟨_, rfl⟩, ⟨_, rfl⟩, ⟨_, rfl⟩, ⟨_, rfl⟩, _, _, rfl, d2⟩
 ·simp only [go_sem, ↓reduceIte, Nat.reduceEqDiff, reduceCtorEq, C7]
  exact ⟨F1, ⟨_, rfl⟩, ⟨_, rfl⟩, ⟨_, rfl⟩, ⟨_, rfl⟩, _, _, rfl, a6⟩
 rw [C7]
 clear d1 d2 d3 d4 d5 d6 d7 a5 a6 a7 a8 a9 a10 a11 V7 V8 F1 F2 p7 p8 s0 o0 a1 h1 r1 a0 h0 r0 a2 h2 r2
 rintro t ⟨kH, k1, k2, k3, k4, k5, k6, ⟨g7, k7⟩, ⟨g14, Il⟩, ⟨g15, Ks⟩, ⟨g17, Kn⟩, tv, tl, Kg, st⟩
 have hw9 := hw4.pre kH
 have V9 := st.vc
 have hc9 := (hc.pre p4).pre kH
 have sp9 := sp.pre kH
 have sv9 := sv.pre kH
 have pp := p4.trans kH
 have Nh := fun {a m draw s d ts Q} => Bw (m := m) (draw := draw) (s := s) (d := d) (ts := ts) (Q := Q) (Tn (H := t.H) (a := a))
 cases q9 : decide ((tl.length : Int) > 6) <;> simp only [go_sem, ↓reduceIte, Nat.reduceEqDiff, reduceCtorEq, k1, Il, Kg, st.len, q9, Nh, hw9]
 rotate_left
 ·exact fl 5 pp
 refine Af ?_
 simp only [go_sem, ↓reduceIte, Nat.reduceEqDiff, reduceCtorEq, Nat.reduceLeDiff, k1, k3, k4, Ks, Kn, Kg, V1, V2, V9]
 refine Aa (fun m' h => pH (x := T.rs) (y := xr) m' h) rfl hw9 fun r3 H10 ⟨⟨z, e3⟩, e4⟩ => ?_
 subst e3
 have e4 : H10 = t.H := e4
 subst e4
 simp only [go_sem, ↓reduceIte, Nat.reduceEqDiff, reduceCtorEq, Nat.reduceLeDiff, k1, k3, k4, Ks, Kn, Kg, V1, V2, V9]
 refine ⟨by rfl, ?_⟩
 have w4 := Ab (3 + n) (by omega) (by omega)
 simp only [go_sem, ↓reduceIte, Nat.reduceEqDiff, reduceCtorEq, k1, k2, k3, k4, k5, k6, Il, Ks, Kn, Kg, V1, V2, V9, w4]
 refine Aa (fun m' h => Ra (a := 3 + n) m' h) rfl hw9 fun r3 H10 ⟨⟨x5, e3⟩, e4⟩ => ?_
 subst e3
 have e4 : H10 = t.H := e4
 subst e4
 simp only [go_sem, ↓reduceIte, Nat.reduceEqDiff, reduceCtorEq, k1, k2, k3, k4, k5, k6, Il, Ks, Kn, Kg]
 obtain ⟨x6, i6, q6, o6, m6, h6, r6, a6⟩ := (hv4.pre kH).str0 (n := 3) (k := 3) rfl (by omega)
 have z6 := hz x6 m6
 have a150 := Ax (bC (H := t.H) (x := ⟨#[]⟩) (Nat.zero_le _))
 have hi6 : decide (i6 < t.H.length) = true := decide_eq_true (Em h6).1
 refine N2 t.H.length ?_
 simp only [go_sem, ↓reduceIte, Nat.reduceEqDiff, reduceCtorEq, k1, k2, k3, k4, k5, k6, Il, Ks, Kn, Kg, a6, h6, r6, a150, hw9]
 refine ⟨by rw [hi6]; rfl, ?_⟩
 refine Bf.intro (fun qa => ?_) (fun qa => ?_)
 rotate_left
 ·simp only [go_sem, ↓reduceIte, Nat.reduceEqDiff, reduceCtorEq, k1, k2, k3, k4, k5, k6, k7, Il, Ks, Kn, Kg]
  refine Af ?_
  simp only [go_sem, ↓reduceIte, Nat.reduceEqDiff, reduceCtorEq, k1, k2, k3, k4, k5, k6, k7, Il, Ks, Kn, Kg, V1, V2, V9, v1, v2, v3, v4, a6, h6, r6]
  refine Aa (fun m' h => wG (U := ⟨T.cl, n, k, z, tl, T.vi⟩) hc9 cp z6 hcl ⟨V1, V2⟩ st sv9 (by omega) h) rfl hw9 fun r3 H11 ⟨E, pE, vE, nE, e1, p11, sp11, sv11⟩ => ?_
  subst e1
  have p11 : t.H <+: H11 := p11
  have hwT := hw9.pre p11
  have VP := sp11.vc
  have VV := sv11.vc
  simp only [go_sem, ↓reduceIte, Nat.reduceEqDiff, reduceCtorEq, List.getElem?_toArray, Bd, k1, k2, k3, k4, k5, k6, k7, Il, Ks, Kn, Kg, V1, V2, V9, VP, VV]
  refine ⟨by rfl, ?_⟩
  have d204 := fun {a m draw s d ts Q} => Bw (m := m) (draw := draw) (s := s) (d := d) (ts := ts) (Q := Q) (Tn (H := H11) (a := a))
  cases qb : decide (nE = 0) <;> simp only [go_sem, ↓reduceIte, Nat.reduceEqDiff, reduceCtorEq, Il, d204, hwT]
  ·exact fl nE (pp.trans p11)
  obtain ⟨x7, i7, q7, o7, m7, h7, r7, a7⟩ := ((hv4.pre kH).pre p11).str0 (n := 3) (k := 3) rfl (by omega)
  have z7 := hz x7 m7
  have hi7 : decide (i7 < H11.length) = true := decide_eq_true (Em h7).1
  refine N2 H11.length ?_
  simp only [go_sem, ↓reduceIte, Nat.reduceEqDiff, reduceCtorEq, Nat.reduceLeDiff, k1, k2, k3, k4, k5, k6, Il, Ks, Kn, Kg, V1, V2, V9, VP, VV, a7, h7, r7]
  refine Aa (fun m' h => Ra (a := T.cl) m' h) rfl hwT fun r3 H12 ⟨⟨x8, e3⟩, e4⟩ => ?_
  subst e3
  have e4 : H12 = H11 := e4
  subst e4
  simp only [go_sem, ↓reduceIte, Nat.reduceEqDiff, reduceCtorEq, Nat.reduceLeDiff, k1, k2, k3, k4, k5, k6, Il, Ks, Kn, Kg]
  refine Aa (fun m' h => Zc (k := x8) z7 h) rfl hwT fun r2 H13 ⟨V, pV, vV, b9, e2, p13, spV, svV, eJ, ovV, hbV⟩ => ?_
  subst e2
  have p13 : H12 <+: H13 := p13
  have V3 := spV.vc
  have V4 := svV.vc
  have gp := sp11.pre p13
  have gv := sv11.pre p13
  have pT := (pp.trans p11).trans p13
  replace hwT := hwT.pre p13
  simp only [go_sem, ↓reduceIte, Nat.reduceEqDiff, reduceCtorEq, Nat.reduceLeDiff, List.getElem?_toArray, Bd, k1, k2, k3, k4, k5, k6, k7, Il, Ks, Kn, Kg, V1, V2, V9, VP, VV, V3, V4]
  refine ⟨by rw [hi7]; rfl, ?_⟩
  refine Af ?_
  simp only [go_sem, ↓reduceIte, Nat.reduceEqDiff, reduceCtorEq, k1, k2, k3, k4, k5, k6, Il, Ks, Kn, Kg, V1, V2, V9, VP, VV]
  refine Aa (fun m' h => Qd gp gv m' h) rfl hwT fun r3 H12 ⟨⟨s5, e1, z5⟩, e3⟩ => ?_
  subst e1; subst e3
  simp only [go_sem, ↓reduceIte, Nat.reduceEqDiff, reduceCtorEq, k1, k2, k3, k4, k5, k6, Il, Ks, Kn, Kg, V1, V2, V9, VP, VV]
  refine Aa (fun m' h => Vw m' h) rfl hwT fun r3 H12 ⟨⟨s7, e1, z7⟩, e3⟩ => ?_
  subst e1; subst e3
  simp only [go_sem, ↓reduceIte, Nat.reduceEqDiff, reduceCtorEq, k1, k2, k3, k4, k5, k6, Il, Ks, Kn, Kg, V1, V2, V9, VP, VV]
  refine Aa (fun m' h => Vv z5 z7 m' h) rfl hwT fun r3 H12 ⟨⟨c8, s8, e8, e1, z8⟩, e3⟩ => ?_
  subst e1; subst e3
  simp only [go_sem, ↓reduceIte, Nat.reduceEqDiff, reduceCtorEq, k1, k2, k3, k4, k5, k6, Il, Ks, Kn, Kg, V1, V2, V9, VP, VV]
  refine ⟨by rfl, ?_⟩
  exact ⟨rfl, ⟨c8, s8, e8, rfl, z8⟩, (List.prefix_iff_eq_take.1 pT).symm⟩
 ·have gp := st
  have gv := sv9
  have pT := pp
  have hwT := hw9
  have VP := st.vc
  have VV := sv9.vc
  obtain ⟨y1, i7, q7, o7, m7, h7, r7, a7⟩ := hc9.sr.intI (n := n) (by omega) (by have := cp.sl; omega)
  simp only [go_sem, ↓reduceIte, Nat.reduceEqDiff, reduceCtorEq, Nat.reduceLeDiff, k1, k2, k3, k4, k5, k6, k7, Il, Ks, Kn, Kg, V1, V2, V9, VP, VV, v1, v2, v3, v4, a7, h7, r7]
  cases qc : decide (y1 = b) <;> simp only [go_sem, ↓reduceIte, Nat.reduceEqDiff, reduceCtorEq, Nat.reduceLeDiff, k1, k2, k3, k4, k5, k6, k7, Il, Ks, Kn, Kg, V1, V2, V9, VP, VV]
  ·refine Af ?_
   simp only [go_sem, ↓reduceIte, Nat.reduceEqDiff, reduceCtorEq, Nat.reduceLeDiff, k1, k2, k3, k4, k5, k6, k7, Il, Ks, Kn, Kg, V1, V2, V9, VP, VV, v1, v2, v3, v4, a7, h7, r7]
   refine Aa (fun m' h => qS hc9 (a := b) (b := y1) m' h) rfl hw9 fun r3 H12 ⟨⟨x8, e3, g1, g2⟩, e4⟩ => ?_
   subst e3
   have e4 : H12 = t.H := e4
   subst e4
   simp only [go_sem, ↓reduceIte, Nat.reduceEqDiff, reduceCtorEq, Nat.reduceLeDiff, k1, k2, k3, k4, k5, k6, k7, Il, Ks, Kn, Kg, V1, V2, V9, VP, VV]
   refine ⟨by rfl, ?_⟩
   cases qd : decide (x8 < 0) <;> simp only [go_sem, ↓reduceIte, Nat.reduceEqDiff, reduceCtorEq, Nat.reduceLeDiff, k1, k2, k3, k4, k5, k6, k7, Il, Ks, Kn, Kg, V1, V2, V9, VP, VV, Nh, hw9]
   rotate_left
   ·exact fl 5 pp
   refine Aa (fun m' h => jG (a := b) (b := x8) m' h) rfl hw9 fun r3 H12 ⟨⟨x9, e3⟩, e4⟩ => ?_
   subst e3
   have e4 : H12 = t.H := e4
   subst e4
   simp only [go_sem, ↓reduceIte, Nat.reduceEqDiff, reduceCtorEq, Nat.reduceLeDiff, k1, k2, k3, k4, k5, k6, k7, Il, Ks, Kn, Kg, V1, V2, V9, VP, VV]
   refine Af ?_
   simp only [go_sem, ↓reduceIte, Nat.reduceEqDiff, reduceCtorEq, k1, k2, k3, k4, k5, k6, k7, Il, Ks, Kn, Kg, V1, V2, V9, VP, VV]
   refine Aa (fun m' h => Qd gp gv m' h) rfl hwT fun r3 H12 ⟨⟨s5, e1, z5⟩, e3⟩ => ?_
   subst e1; subst e3
   simp only [go_sem, ↓reduceIte, Nat.reduceEqDiff, reduceCtorEq, k1, k2, k3, k4, k5, k6, k7, Il, Ks, Kn, Kg, V1, V2, V9, VP, VV]
   refine Aa (fun m' h => Vw m' h) rfl hwT fun r3 H12 ⟨⟨s7, e1, z7⟩, e3⟩ => ?_
   subst e1; subst e3
   simp only [go_sem, ↓reduceIte, Nat.reduceEqDiff, reduceCtorEq, k1, k2, k3, k4, k5, k6, k7, Il, Ks, Kn, Kg, V1, V2, V9, VP, VV]
   refine Aa (fun m' h => Vv z5 z7 m' h) rfl hwT fun r3 H12 ⟨⟨c8, s8, e8, e1, z8⟩, e3⟩ => ?_
   subst e1; subst e3
   simp only [go_sem, ↓reduceIte, Nat.reduceEqDiff, reduceCtorEq, k1, k2, k3, k4, k5, k6, k7, Il, Ks, Kn, Kg, V1, V2, V9, VP, VV]
   refine ⟨by rfl, ?_⟩
   exact ⟨rfl, ⟨c8, s8, e8, rfl, z8⟩, (List.prefix_iff_eq_take.1 pT).symm⟩
  ·refine Af ?_
   simp only [go_sem, ↓reduceIte, Nat.reduceEqDiff, reduceCtorEq, k1, k2, k3, k4, k5, k6, k7, Il, Ks, Kn, Kg, V1, V2, V9, VP, VV]
   refine Aa (fun m' h => Qd gp gv m' h) rfl hwT fun r3 H12 ⟨⟨s5, e1, z5⟩, e3⟩ => ?_
   subst e1; subst e3
   simp only [go_sem, ↓reduceIte, Nat.reduceEqDiff, reduceCtorEq, k1, k2, k3, k4, k5, k6, k7, Il, Ks, Kn, Kg, V1, V2, V9, VP, VV]
   refine Aa (fun m' h => Vw m' h) rfl hwT fun r3 H12 ⟨⟨s7, e1, z7⟩, e3⟩ => ?_
   subst e1; subst e3
   simp only [go_sem, ↓reduceIte, Nat.reduceEqDiff, reduceCtorEq, k1, k2, k3, k4, k5, k6, k7, Il, Ks, Kn, Kg, V1, V2, V9, VP, VV]
   refine Aa (fun m' h => Vv z5 z7 m' h) rfl hwT fun r3 H12 ⟨⟨c8, s8, e8, e1, z8⟩, e3⟩ => ?_
   subst e1; subst e3
   simp only [go_sem, ↓reduceIte, Nat.reduceEqDiff, reduceCtorEq, k1, k2, k3, k4, k5, k6, k7, Il, Ks, Kn, Kg, V1, V2, V9, VP, VV]
   refine ⟨by rfl, ?_⟩
   exact ⟨rfl, ⟨c8, s8, e8, rfl, z8⟩, (List.prefix_iff_eq_take.1 pT).symm⟩
theorem tW {H : Hp} {c : Ic} {u s l p : Value} (hc : K5 H c u s l p) {b w k : Int} {t : ByteArray} (ht : t.size ≤ 4611686018427387904) : A4 EE 196 [T3 c u s l p, .int .i64 b, .int .i64 w, .int .i64 k, .string t] H dF := by
 refine Ar rfl rfl Ab0 (by simp [iA]) fun m hw => ?_
 obtain ⟨v1, v2, v3, v4⟩ := hc.vcs
 have fl : ∀ {H2 : Hp} (a : Int), H <+: H2 → A8 (fM a) = true ∧ dF (fM a) ∧ H2.take H.length = H := fun a h => ⟨rfl, Yj a, (List.prefix_iff_eq_take.1 h).symm⟩
 simp only [go_sem, ↓reduceIte, Nat.reduceEqDiff, reduceCtorEq, iA, v1, v2, v3, v4]
 refine Aa (fun m' h => Rl ht h) rfl hw fun r1 H1 ⟨pv, e1, p1, sp, op⟩ => ?_
 subst e1
 have p1 : H <+: H1 := p1
 have hw1 := hw.pre p1
 have l12 := Jr t
 have hin := fun {p : ByteArray} (h : p ∈ (A5 t).getD []) => (Hx h).1
 generalize (A5 t).getD [] = ps at *
 generalize (A5 t).isSome = b0
 have hc1 := hc.pre p1
 have V1 := sp.vc
 have a55 := Ax (iO hc1)
 have a173 := Ax (Ul (H := H1) (a := b))
 have Nh := fun {a m draw s d ts Q} => Bw (m := m) (draw := draw) (s := s) (d := d) (ts := ts) (Q := Q) (Tn (H := H1) (a := a))
 simp only [go_sem, ↓reduceIte, Nat.reduceEqDiff, reduceCtorEq, List.getElem?_toArray, Bd, v1, v2, v3, v4, V1, a55, hw1]
 cases q1 : Co c <;> simp only [go_sem, ↓reduceIte, Nat.reduceEqDiff, reduceCtorEq, a173, Nh, hw1]
 ·exact fl 1 p1
 have cp := dZ q1
 cases q2 : A0 b 0 2 <;> simp only [go_sem, ↓reduceIte, Nat.reduceEqDiff, reduceCtorEq, Cu, Nh, hw1]
 ·exact fl 1 p1
 cases q3 : A0 w 0 100000 <;> simp only [go_sem, ↓reduceIte, Nat.reduceEqDiff, reduceCtorEq, Cu, Nh, hw1]
 ·exact fl 1 p1
 cases q4 : A0 k 101 1000000 <;> simp only [go_sem, ↓reduceIte, Nat.reduceEqDiff, reduceCtorEq, sp.len, Nh, hw1]
 ·exact fl 1 p1
 cases q5 : decide ((ps.length : Int) = 0) <;> simp only [go_sem, ↓reduceIte, Nat.reduceEqDiff, reduceCtorEq, q5, Nh, hw1]
 rotate_left
 ·exact fl 1 p1
 have q5 := Au q5
 obtain ⟨x0, i0, q0, o0, m0, h0, r0, a0⟩ := sp.str0 (n := 0) (k := 0) rfl (by omega)
 have z0 := hin m0
 simp only [go_sem, ↓reduceIte, Nat.reduceEqDiff, reduceCtorEq, a0, h0, r0]
 refine Aa (fun m' h => Ph (s := x0) (by omega) h) rfl hw1 fun r2 H2 ⟨v, li, b1, e2, p2, sv, ov⟩ => ?_
 subst e2
 have p2 : H1 <+: H2 := p2
 have hw2 := hw1.pre p2
 have pp := p1.trans p2
 have hc2 := hc1.pre p2
 have sp2 := sp.pre p2
 have d204 := fun {a m draw s d ts Q} => Bw (m := m) (draw := draw) (s := s) (d := d) (ts := ts) (Q := Q) (Tn (H := H2) (a := a))
 simp only [go_sem, ↓reduceIte, Nat.reduceEqDiff, reduceCtorEq, List.getElem?_toArray, Bd, sv.vc]
 cases b1 <;> simp only [go_sem, ↓reduceIte, Nat.reduceEqDiff, reduceCtorEq, sv.len, d204, hw2]
 ·exact fl 1 pp
 cases q6 : decide ((li.length : Int) = 3) <;> simp only [go_sem, ↓reduceIte, Nat.reduceEqDiff, reduceCtorEq, q6, d204, hw2]
 ·exact fl 1 pp
 have q6 := As q6
 obtain ⟨y0, i1, q1, o1, h1, r1, a1⟩ := sv.int0 (n := 0) (k := 0) rfl (by omega)
 obtain ⟨y1, i2, q2, o2, h2, r2, a2⟩ := sv.int0 (n := 1) (k := 1) rfl (by omega)
 obtain ⟨y2, i3, q3, o3, h3, r3, a3⟩ := sv.int0 (n := 2) (k := 2) rfl (by omega)
 simp only [go_sem, ↓reduceIte, Nat.reduceEqDiff, reduceCtorEq, a3, h3, r3]
 refine Aa (fun m' h => lX (a := y2) m' h) rfl hw2 fun r3 H3 ⟨⟨x1, e3⟩, e4⟩ => ?_
 subst e3
 have e4 : H3 = H2 := e4
 subst e4
 simp only [go_sem, ↓reduceIte, Nat.reduceEqDiff, reduceCtorEq]
 cases x1 <;> simp only [go_sem, ↓reduceIte, Nat.reduceEqDiff, reduceCtorEq, d204, hw2, a1, h1, r1]
 rotate_left
 ·exact fl 1 pp
 have two : ∀ {t' : St}, True := trivial
 cases q7 : decide (y0 = 1) <;> simp only [go_sem, ↓reduceIte, Nat.reduceEqDiff, reduceCtorEq, a1, h1, r1, sp2.len]
 rotate_left
 cases q8 : decide ((ps.length : Int) = 2) <;> simp only [go_sem, ↓reduceIte, Nat.reduceEqDiff, reduceCtorEq, a1, h1, r1, sp2.len, q7]
 rotate_left
 ·have q8 := As q8
  obtain ⟨x5, i5, q5, o5, m5, h5, r5, a5⟩ := sp2.str0 (n := 1) (k := 1) rfl (by omega)
  have z5 := hin m5
  refine Af ?_
  simp only [go_sem, ↓reduceIte, Nat.reduceEqDiff, reduceCtorEq, v1, v2, v3, v4, a2, h2, r2, a3, h3, r3, a5, h5, r5]
  refine Aa (fun m' h => tU hc2 (by omega) m' h) rfl hw2 fun r6 H6 ⟨⟨c8, s8, e8, e1, z8⟩, e4⟩ => ?_
  subst e1
  have e4 : H6 = H3 := e4
  subst e4
  simp only [go_sem, ↓reduceIte, Nat.reduceEqDiff, reduceCtorEq]
  refine ⟨by rfl, ?_⟩
  exact ⟨rfl, ⟨c8, s8, e8, rfl, z8⟩, (List.prefix_iff_eq_take.1 pp).symm⟩
 all_goals
  cases q9 : decide (y0 = 2) <;> simp only [go_sem, ↓reduceIte, Nat.reduceEqDiff, reduceCtorEq, sp2.len, d204, hw2, a1, h1, r1]
  ·exact fl 1 pp
  cases q10 : decide ((ps.length : Int) = 5) <;> simp only [go_sem, ↓reduceIte, Nat.reduceEqDiff, reduceCtorEq, q10, d204, hw2]
  ·exact fl 1 pp
  have q10 := As q10
  obtain ⟨v', dv, _, sd⟩ := Sl.drop sp2 (i := 1) (by omega)
  have sd := sd H3 ps rfl sp2
  have dv1 : ∀ (s : St) (x : X), Av s.ρ x = some pv → Ih s 1 x (some (.c (.int .i64 1))) none = some (.val v', s) := fun s x hx => dv s x _ hx rfl
  refine Af ?_
  simp only [go_sem, ↓reduceIte, Nat.reduceEqDiff, reduceCtorEq, v1, v2, v3, v4, a2, h2, r2, a3, h3, r3, dv1]
  refine Aa (fun m' h => wB hc2 cp sd (by simp; omega) (fun x hx => by have := hin (List.mem_of_mem_drop hx); omega) m' h) rfl hw2 fun r6 H6 ⟨⟨c8, s8, e8, e1, z8⟩, e4⟩ => ?_
  subst e1
  have e4 : H6 = H3 := e4
  subst e4
  simp only [go_sem, ↓reduceIte, Nat.reduceEqDiff]
  refine ⟨by rfl, ?_⟩
  exact ⟨rfl, ⟨c8, s8, e8, rfl, z8⟩, (List.prefix_iff_eq_take.1 pp).symm⟩
def TrP (r : Value) : Prop := ∃ (x : Cr) (b : Bool), r = .tuple #[.agg #[.int .i64 x.1, .int .i64 x.2.1, .int .i64 x.2.2.1, .int .i64 x.2.2.2.1, .int .i64 x.2.2.2.2.1.1, .int .i64 x.2.2.2.2.1.2.1, .int .i64 x.2.2.2.2.1.2.2, .string x.2.2.2.2.2], .bool b] ∧ x.2.2.2.2.2.size ≤ 1000 ∧ X5 x.2.2.1
theorem yK {H : Hp} {a b k n : Int} {t : ByteArray} (ht : t.size ≤ 1000) : A4 EE 197 [.int .i64 a, .int .i64 b, .int .i64 k, .int .i64 n, .string t] H TrP := by
 refine Ar rfl rfl tJ (by simp [jN]) fun m hw => ?_
 have no : ∀ {H2 : Hp}, H <+: H2 → A8 (.tuple #[rB (0, 0, 0, 0, (0, 0, 0), ⟨#[]⟩), .bool false]) = true ∧ TrP (.tuple #[rB (0, 0, 0, 0, (0, 0, 0), ⟨#[]⟩), .bool false]) ∧ H2.take H.length = H := fun h => ⟨rfl, ⟨_, _, rfl, Nat.zero_le _, by unfold X5; simp⟩, (List.prefix_iff_eq_take.1 h).symm⟩
 simp only [go_sem, Nat.reduceEqDiff, reduceCtorEq, jN]
 refine Aa (fun m' h => Rl (s := t) (by omega) h) rfl hw fun r1 H1 ⟨pv, e1, p1, sp, op⟩ => ?_
 subst e1
 have p1 : H <+: H1 := p1
 have hw1 := hw.pre p1
 have hin := fun {p : ByteArray} (h : p ∈ (A5 t).getD []) => (Hx h).1
 generalize (A5 t).getD [] = ps at *
 generalize (A5 t).isSome = b0
 have a61 := Ax (cW (H := H1) (a := a))
 have b61 := Ax (cW (H := H1) (a := b))
 simp only [go_sem, Nat.reduceEqDiff, reduceCtorEq, List.getElem?_toArray, Bd, sp.vc, a61, hw1]
 cases q1 : A0 a 0 5 <;> simp only [go_sem, Nat.reduceEqDiff, reduceCtorEq, b61, hw1]
 ·exact no p1
 cases q2 : A0 b 0 5 <;> simp only [go_sem, Nat.reduceEqDiff, reduceCtorEq, sp.len]
 ·exact no p1
 cases q5 : decide ((ps.length : Int) = 3) <;> simp only [go_sem, Nat.reduceEqDiff, reduceCtorEq, q5]
 ·exact no p1
 have q5 := As q5
 obtain ⟨x0, i0, q0, o0, m0, h0, r0, a0⟩ := sp.str0 (n := 0) (k := 0) rfl (by omega)
 have z0 := hin m0
 simp only [go_sem, Nat.reduceEqDiff, reduceCtorEq, a0, h0, r0]
 refine Aa (fun m' h => Ph (s := x0) (by omega) h) rfl hw1 fun r2 H2 ⟨v, li, b1, e2, p2, sv, ov⟩ => ?_
 subst e2
 have p2 : H1 <+: H2 := p2
 have hw2 := hw1.pre p2
 have pp := p1.trans p2
 have sp2 := sp.pre p2
 obtain ⟨x2, i2, q2, o2, m2, h2, r2, a2⟩ := sp2.str0 (n := 2) (k := 2) rfl (by omega)
 have z2 := hin m2
 obtain ⟨x1, i1, q1, o1, m1, h1, r1, a1⟩ := sp2.str0 (n := 1) (k := 1) rfl (by omega)
 have z1 := hin m1
 simp only [go_sem, Nat.reduceEqDiff, reduceCtorEq, List.getElem?_toArray, Bd, sv.vc, a2, h2, r2]
 refine Aa (fun m' h => tI (s := x2) (by omega) m' h) rfl hw2 fun r3 H3 ⟨⟨g, bg, e3, hbg⟩, e4⟩ => ?_
 subst e3
 have e4 : H3 = H2 := e4
 subst e4
 simp only [go_sem, Nat.reduceEqDiff, reduceCtorEq, List.getElem?_toArray, Bd]
 cases b1 <;> simp only [go_sem, Nat.reduceEqDiff, reduceCtorEq]
 ·exact no pp
 cases bg <;> simp only [go_sem, Nat.reduceEqDiff, reduceCtorEq, sv.len]
 ·exact no pp
 have gok := hbg rfl
 cases q6 : decide ((li.length : Int) = 2) <;> simp only [go_sem, Nat.reduceEqDiff, reduceCtorEq, q6]
 ·exact no pp
 have q6 := As q6
 obtain ⟨y0, i5, q5, o5, h5, r5, a5⟩ := sv.int0 (n := 0) (k := 0) rfl (by omega)
 obtain ⟨y1, i6, q6, o6, h6, r6, a6⟩ := sv.int0 (n := 1) (k := 1) rfl (by omega)
 simp only [go_sem, Nat.reduceEqDiff, reduceCtorEq, a5, h5, r5]
 cases q7 : decide (y0 = 3) <;> simp only [go_sem, Nat.reduceEqDiff, reduceCtorEq, a6, h6, r6]
 ·exact no pp
 cases q8 : decide (y1 = n) <;> simp only [go_sem, Nat.reduceEqDiff, reduceCtorEq]
 ·exact no pp
 cases q9 : decide (g.2.2.1 = n) <;> simp only [go_sem, Nat.reduceEqDiff, reduceCtorEq]
 ·exact no pp
 have hsv : X5 g.2.1 := by
  simp only [Kv, Bool.and_eq_true, Qf, Bool.or_eq_true] at gok
  unfold X5
  rcases gok.2.1 with h | h <;> have := Bz.1 h <;> omega
 refine Af ?_
 simp only [go_sem, Nat.reduceEqDiff, reduceCtorEq, Nat.reduceLeDiff, a1, h1, r1]
 refine ⟨by rfl, ?_⟩
 exact ⟨rfl, ⟨(a, b, g.2.1, g.1, g.2.2.2, x1), true, rfl, by simp only; omega, hsv⟩, (List.prefix_iff_eq_take.1 pp).symm⟩
theorem Sl.oneRe {m : Md} {N : Nat} {H : Hp} {v : Value} {l : List Re} (a : Re) (h : Hl H v l) (ho : Ao N v) (hN : N ≤ H.length) (hw : ∀ id, N ≤ id → m.wr id = true) (hb : l.length ≤ 100000010) :
  ∃ v' H', (∀ (s : St) (x y : X), s.H = H → Av s.ρ x = some v → ex s.ρ y = .vs 1 [.int .i64 a.1, .int .i64 a.2.1, .int .i64 a.2.2] → Ce m s 3 24 x y = some (.val v', { s with H := H' })) ∧ Hl H' v' (l ++ [a]) ∧ Ao N v' ∧
   (∀ j, j < H.length → j ∉ Ae v → H'[j]? = H[j]?) ∧ H.length ≤ H'.length ∧ (∀ j ∈ Ae v', j ∈ Ae v ∨ H.length ≤ j) ∧ ∀ H0 : Hp, H0.length ≤ N → H0 <+: H → H0 <+: H' := by
 obtain ⟨v', H', h1, h2⟩ := h.app (m := m) (n := 1) (bytes := 24) (l2 := [a]) (cs := Vt a) ho hN hw (fun _ => rfl) (by simp) rfl (fun i b hi => by
  cases i with
  | zero => simp at hi; subst hi; rfl
  | succ i => simp at hi) (by unfold Ev.room; simp; omega) (by unfold Ev.room; simp; omega)
 exact ⟨v', H', fun s x y hH hx hy => h1 s x y hH hx (by rw [hy]; rfl), h2⟩
theorem Tl {H : Hp} : Hl (H ++ [[]]) (.slice (some ⟨H.length, 0, some 3⟩) 0 (0 * 3)) [] := .inr ⟨H.length, 0, 0, [], rfl, by simp, by simp, by simp, by simp, fun i a hi => by simp at hi⟩
abbrev bK (q : Int) (v : Value) : Value := .agg #[.int .i64 q, v]
def CaR (H : Hp) (q : Int) (l : List Re) (r : Value) (H' : Hp) : Prop := ∃ v', r = bK q v' ∧ Vb Vt 3 H v' H' l
theorem qG {m : Md} {H : Hp} {v : Value} {q : Int} {l : List Re} (h : Hl H v l) (hl : l.length ≤ 1000) (hw : Wr m H) : Ci EE m 209 [bK q v] H fun r H' => CaR H q l r H' := by
 refine Bt rfl rfl Aai (by simp [jC]) ?_
 have p0 : H <+: H ++ [[]] := Eg
 have s0 : Hl (H ++ [[]]) (.slice (some ⟨H.length, 0, some 3⟩) 0 (0 * 3)) [] := Tl
 have o0 : Ao H.length (.slice (some ⟨H.length, 0, some 3⟩) 0 (0 * 3)) := .inr ⟨_, _, _, _, rfl, Nat.le_refl _⟩
 generalize hwv : Value.slice (some ⟨H.length, 0, some 3⟩) 0 (0 * 3) = wv0 at s0 o0
 obtain ⟨tv, H1, a1, a2, a3, a4, a5, a6, a7⟩ := s0.join (m := m) (N := H.length) (bytes := 24) (h.pre p0) (fun _ => rfl) (by omega) o0 p0.length_le hw (by unfold Ev.room; simp; omega) (by unfold Ev.room; simp; omega)
 have p1 := a7 H (Nat.le_refl _) p0
 have a2 : Hl H1 tv l := by simpa using a2
 have V1 := h.vc
 have V2 := a2.vc
 have V0 := s0.vc
 simp only [go_sem, jC, V1]
 refine Af ?_
 simp only [go_sem, Nat.reduceEqDiff, reduceCtorEq, V1, Ba, hwv, V0]
 rw [a1]
 rotate_left
 ·rfl
 ·rfl
 ·rfl
 simp only [go_sem, Nat.reduceEqDiff, Nat.reduceLeDiff, V1, V2]
 refine ⟨by rfl, ?_⟩
 exact ⟨tv, rfl, p1, a2, a3⟩
theorem gK {H : Hp} {m : Md} (hw : Wr m H) : Ci EE m 164 [] H fun r H' => r = bK (-1) (.slice none 0 0) ∧ H' = H := by
 refine Bt rfl rfl tC (by simp [kU]) ?_
 simp only [go_sem, Nat.reduceEqDiff, Nat.reduceLeDiff, kU]
theorem Aan {H : Hp} {m : Md} {a b : Int} (hw : Wr m H) : Ci EE m 187 [.int .i64 a, .int .i64 b] H fun r H' => (∃ q, r = bK q (.slice none 0 0)) ∧ H' = H := by
 refine Bt rfl rfl Aa9 (by simp [kJ]) ?_
 simp only [go_sem, Nat.reduceEqDiff, kJ, Cu, hw]
 cases q1 : A0 a 0 100000 <;> simp only [go_sem, Nat.reduceEqDiff, Cu, hw]
 ·refine Aa (fun m' h => gK h) rfl hw fun r1 H1 ⟨e1, e2⟩ => ?_
  subst e1
  simp only [go_sem, Nat.reduceEqDiff]
  exact ⟨⟨_, rfl⟩, e2⟩
 cases q2 : A0 b 0 20 <;> simp only [go_sem, Nat.reduceEqDiff, reduceCtorEq, Nat.reduceLeDiff]
 ·refine Aa (fun m' h => gK h) rfl hw fun r1 H1 ⟨e1, e2⟩ => ?_
  subst e1
  simp only [go_sem, Nat.reduceEqDiff, Nat.reduceLeDiff]
  exact ⟨⟨_, rfl⟩, e2⟩
 ·exact ⟨_, rfl⟩
def TyR (H : Hp) (r : Value) (H' : Hp) : Prop := ∃ (q : Int) (v : Value) (l : List Re) (n : Int), r = .tuple #[bK q v, .int .i64 n] ∧ H <+: H' ∧ Hl H' v l ∧ Ao H.length v
theorem Sl.re {H : Hp} {v : Value} {l : List Re} (h : Hl H v l) {i : Nat} (hi : i < l.length) : ∃ (x : Re) (id p : Nat) (o : List Value), H[id]? = some o ∧ (o.drop p).take 3 = [.int .i64 x.1, .int .i64 x.2.1, .int .i64 x.2.2] ∧ p + 3 ≤ o.length ∧ o[p + 1]? = some (.int .i64 x.2.1) ∧
  ∀ (s : St) (x y : X), Av s.ρ x = some v → Av s.ρ y = some (.int .i64 i) → B4 s 3 x y = some (.val (.pointer (some ⟨id, p, some o.length⟩)), s) := by
 obtain ⟨id, p, o, ho, hr, hp, hia⟩ := h.elem (B7 hi)
 have hr : (o.drop p).take 3 = Vt l[i] := hr
 exact ⟨l[i], id, p, o, ho, hr, hp, by have := Al hr (j := 1) (by omega); simpa [Vt] using this, hia⟩
theorem Aba {m : Md} {H : Hp} {v : Value} {q : Int} {l : List Re} {x : Re} {a b : Int} (h : Hl H v l) (hw : Wr m H) : Ci EE m 213 [bK q v, Ry x, .int .i64 a, .int .i64 b] H fun r H' => TyR H r H' := by
 refine Bt rfl rfl uX (by simp [lS]) ?_
 have V1 := h.vc
 have a60 := Ax (vZ (q := q) h)
 simp only [go_sem, Nat.reduceEqDiff, lS, V1, a60, hw]
 cases q1 : Ho q l <;> simp only [go_sem, Nat.reduceEqDiff, V1]
 ·exact ⟨_, _, [], _, rfl, List.prefix_refl _, Bl, .inl rfl⟩
 have l6 : l.length ≤ 6 := (aO.1 q1).2.1
 refine Aa (fun m' h' => qG (q := q) h (by omega) h') rfl hw fun r1 H1 ⟨tv, e1, p1, s1, o1⟩ => ?_
 subst e1
 have p1 : H <+: H1 := p1
 have o1 : Ao H.length tv := o1
 have hw1 := hw.pre p1
 have V2 := s1.vc
 have no : ∀ {H2 : Hp} (n : Int), H1 <+: H2 → TyR H (.tuple #[bK q tv, .int .i64 n]) H2 := fun n h => ⟨_, _, l, _, rfl, p1.trans h, s1.pre h, o1⟩
 have a102 := Ax (cD (H := H1) (x := x))
 have a103 := Ax (pC (x := x) s1)
 simp only [go_sem, Nat.reduceEqDiff, V2, a102, hw1]
 cases q2 : Hk x <;> simp only [go_sem, Nat.reduceEqDiff, reduceCtorEq, V2, Cu, hw1]
 ·exact no 1 (List.prefix_refl _)
 cases q3 : A0 a 0 100000 <;> simp only [go_sem, Nat.reduceEqDiff, reduceCtorEq, V2, Cu, hw1]
 ·exact no 1 (List.prefix_refl _)
 cases q4 : A0 b 0 20 <;> simp only [go_sem, Nat.reduceEqDiff, reduceCtorEq, V2]
 ·exact no 1 (List.prefix_refl _)
 refine Aa (fun m' h => fU (a := a) (b := x.2.1) (c := b) m' h) rfl hw1 fun r3 H3 ⟨⟨x3, e3⟩, e4⟩ => ?_
 subst e3
 have e4 : H3 = H1 := e4
 subst e4
 cases x3 <;> simp only [go_sem, Nat.reduceEqDiff, reduceCtorEq, V2]
 rotate_left
 ·exact no 2 (List.prefix_refl _)
 cases q5 : decide (a ≤ q) <;> simp only [go_sem, Nat.reduceEqDiff, reduceCtorEq, V2]
 rotate_left
 ·exact no 3 (List.prefix_refl _)
 simp only [go_sem, Nat.reduceEqDiff, reduceCtorEq, a103, hw1]
 cases q6 : l.any (G3 · x) <;> simp only [go_sem, Nat.reduceEqDiff, reduceCtorEq, V2]
 rotate_left
 ·exact no 4 (List.prefix_refl _)
 have p0 : H3 <+: H3 ++ [[]] := Eg
 have s0 : Hl (H3 ++ [[]]) (.slice (some ⟨H3.length, 0, some 3⟩) 0 0) [] := Tl
 have o0 : Ao H3.length (.slice (some ⟨H3.length, 0, some 3⟩) 0 0) := .inr ⟨_, _, _, _, rfl, Nat.le_refl _⟩
 have hI : ∀ {P : St → Prop}, True := trivial
 refine Ak l.length (fun i t => H3 <+: t.H ∧ (∃ g, t.ρ 4 = .bx g [.int .i64 q, tv]) ∧ (∃ g, t.ρ 5 = .bx g [.int .i64 x.1, .int .i64 x.2.1, .int .i64 x.2.2]) ∧ (∃ g, t.ρ 8 = .bx g [.int .i64 0, .slice none 0 0]) ∧ t.ρ 2 = .val (.int .i64 a) ∧ t.ρ 3 = .val (.int .i64 b) ∧ t.ρ 11 = .val (.int .i64 i) ∧ ∃ wv k, t.ρ 10 = .val wv ∧ Hl t.H wv k ∧ k.length ≤ i ∧ Ao H3.length wv)
  (fun t => H3 <+: t.H ∧ (∃ g, t.ρ 4 = .bx g [.int .i64 q, tv]) ∧ (∃ g, t.ρ 5 = .bx g [.int .i64 x.1, .int .i64 x.2.1, .int .i64 x.2.2]) ∧ (∃ g, t.ρ 8 = .bx g [.int .i64 0, .slice none 0 0]) ∧ ∃ wv k, t.ρ 10 = .val wv ∧ Hl t.H wv k ∧ k.length ≤ l.length ∧ Ao H3.length wv) ?_ ?_ ?_
 ·exact ⟨p0, ⟨1, by simp [Ah]⟩, ⟨2, by simp [Ah]⟩, ⟨3, by simp [Ah]⟩, by simp [Ah, Cb], by simp [Ah, Cb], by simp [Ah], _, [], by simp [Ah], s0, Nat.le_refl _, o0⟩
 ·rintro i t hi ⟨kH, ⟨g4, k4⟩, ⟨g5, k5⟩, ⟨g8, k8⟩, k2, k3, Rc, wv, k, k10, ks, kl, ko⟩
  have s1' := s1.pre kH
  simp only [go_sem, Nat.reduceEqDiff, reduceCtorEq, k2, k3, k4, k10, Rc, V2, s1'.len]
  cases q7 : decide ((i : Int) < (l.length : Int)) <;> simp only [go_sem, Nat.reduceEqDiff, reduceCtorEq, k2, k3, k4, k5, k8, k10, Rc]
  ·exact ⟨kH, ⟨_, rfl⟩, ⟨_, rfl⟩, ⟨_, rfl⟩, wv, k, rfl, ks, by omega, ko⟩
  have hil : i < l.length := by have := As q7; omega
  have w1 := Ab ((i : Int) + 1) (by omega) (by omega)
  obtain ⟨y, id, pp, o, ho, hr, hp, h1, hia⟩ := Sl.re s1' hil
  simp only [go_sem, Nat.reduceEqDiff, reduceCtorEq, k2, k3, k4, k5, k8, k10, Rc, hia, ho, h1, V2]
  refine Bf.intro (fun qq => ?_) (fun qq => ?_) <;> simp only [go_sem, Nat.reduceEqDiff, reduceCtorEq, k2, k3, k4, k5, k8, k10, Rc, hia, ho, hr, hp, V2, w1]
  ·obtain ⟨u2, H2, d1, d2, d3, d4, d5, d6, d7⟩ := ks.oneRe (m := m) y ko kH.length_le hw1 (by omega)
   rw [d1]
   rotate_left
   ·rfl
   ·rfl
   ·rfl
   simp only [go_sem, Nat.reduceEqDiff, k2, k3, k4, k5, k8, k10, Rc, w1]
   exact ⟨hil, d7 H3 (Nat.le_refl _) kH, ⟨_, rfl⟩, ⟨_, rfl⟩, ⟨_, rfl⟩, by simp, u2, _, rfl, d2, by simp; omega, d3⟩
  ·exact ⟨hil, kH, ⟨_, rfl⟩, ⟨_, rfl⟩, ⟨_, rfl⟩, by simp, wv, k, rfl, ks, by omega, ko⟩
 ·rintro t ⟨kH, ⟨g4, k4⟩, ⟨g5, k5⟩, ⟨g8, k8⟩, wv, k, k10, ks, kl, ko⟩
  simp only [go_sem, Nat.reduceEqDiff, k4, k5, k8, k10, ks.len]
  cases q8 : decide ((k.length : Int) ≥ 6) <;> simp only [go_sem, Nat.reduceEqDiff, k4, k5, k8, k10, V2]
  rotate_left
  ·exact no 5 kH
  obtain ⟨u2, H2, d1, d2, d3, d4, d5, d6, d7⟩ := ks.oneRe (m := m) x ko kH.length_le hw1 (by omega)
  have V3 := d2.vc
  rw [d1]
  rotate_left
  ·rfl
  ·rfl
  ·rfl
  simp only [go_sem, Nat.reduceEqDiff, k4, k5, k8, k10, V2, V3]
  exact ⟨_, _, _, _, rfl, p1.trans (d7 H3 (Nat.le_refl _) kH), d2, d3.mono p1.length_le⟩
abbrev acV (A : I7) (p v : Value) : Value := .agg #[.int .i64 A.sv, .int .i64 A.cl, .int .i64 A.ky, .int .i64 A.op, .int .i64 A.nw, .int .i64 A.au.1, .int .i64 A.au.2.1, .int .i64 A.au.2.2, .int .i64 A.rs.1, .int .i64 A.rs.2.1, .int .i64 A.rs.2.2, p, v, .int .i64 A.lk, .string A.tk]
def zA : I7 := ⟨0, 0, 0, 0, 0, (0, 0, 0), (0, 0, 0), [], [], 0, ⟨#[]⟩⟩
def SvR (H : Hp) (r : Value) (H' : Hp) : Prop := ∃ (q : Int) (v : Value) (l : List Re) (A : I7) (pA vA : Value) (n : Int), r = .tuple #[bK q v, acV A pA vA, .int .i64 n] ∧ H <+: H' ∧ Hl H' v l ∧ Ao H.length v ∧ Bu H' pA A.pa ∧ Ao H.length pA ∧ Bu H' vA A.vi ∧ Ao H.length vA ∧ A.tk.size ≤ 1000
theorem Aau {m : Md} {H : Hp} {c : Ic} {u s l p : Value} (hc : K5 H c u s l p) {n a q : Int} {v : Value} {L : List Re} (h : Hl H v L) {t : ByteArray} (ht : t.size ≤ 1000) (hw : Wr m H) : Ci EE m 198 [T3 c u s l p, .int .i64 n, .int .i64 a, bK q v, .string t] H fun r H' => SvR H r H' := by
 refine Bt rfl rfl sU (by simp [kA]) ?_
 obtain ⟨v1, v2, v3, v4⟩ := hc.vcs
 have V1 := h.vc
 have a60 := Ax (vZ (q := q) h)
 simp only [go_sem, ↓reduceIte, Nat.reduceEqDiff, reduceCtorEq, kA, V1, a60, hw, v1, v2, v3, v4]
 cases q1 : Ho q L <;> simp only [go_sem, ↓reduceIte, Nat.reduceEqDiff, reduceCtorEq, V1]
 ·exact ⟨_, _, [], zA, _, _, _, rfl, List.prefix_refl _, Bl, .inl rfl, Bl, .inl rfl, Bl, .inl rfl, Nat.zero_le _⟩
 have l6 : L.length ≤ 6 := (aO.1 q1).2.1
 refine Aa (fun m' h' => qG (q := q) h (by omega) h') rfl hw fun r1 H1 ⟨tv, e1, p1, s1, o1⟩ => ?_
 subst e1
 have p1 : H <+: H1 := p1
 have o1 : Ao H.length tv := o1
 have hw1 := hw.pre p1
 have V2 := s1.vc
 have no : ∀ {H2 : Hp} (n : Int), H1 <+: H2 → SvR H (.tuple #[bK q tv, acV zA (.slice none 0 0) (.slice none 0 0), .int .i64 n]) H2 := fun n h => ⟨_, _, L, zA, _, _, _, rfl, p1.trans h, s1.pre h, o1, Bl, .inl rfl, Bl, .inl rfl, Nat.zero_le _⟩
 simp only [go_sem, ↓reduceIte, Nat.reduceEqDiff, reduceCtorEq, V2]
 refine Aa (fun m' h => Rl (s := t) (by omega) h) rfl hw1 fun r1 H2 ⟨pv, e1, p2, sp, op⟩ => ?_
 subst e1
 have p2 : H1 <+: H2 := p2
 have hw2 := hw1.pre p2
 have l12 := Jr t
 have hin := fun {p : ByteArray} (h : p ∈ (A5 t).getD []) => (Hx h).1
 generalize (A5 t).getD [] = ps at *
 generalize (A5 t).isSome = b0
 have hc2 := (hc.pre p1).pre p2
 have V3 := sp.vc
 have a55 := Ax (iO hc2)
 simp only [go_sem, ↓reduceIte, Nat.reduceEqDiff, reduceCtorEq, List.getElem?_toArray, Bd, v1, v2, v3, v4, V2, V3, a55, hw2]
 cases q1 : Co c <;> simp only [go_sem, ↓reduceIte, Nat.reduceEqDiff, reduceCtorEq, V2]
 ·exact no 1 p2
 cases q2 : decide (n < 0) <;> simp only [go_sem, ↓reduceIte, Nat.reduceEqDiff, reduceCtorEq, V2]
 rotate_left
 ·exact no 1 p2
 have q2 := Au q2
 cases q3 : decide (n ≥ 3) <;> simp only [go_sem, ↓reduceIte, Nat.reduceEqDiff, reduceCtorEq, V2, Cu, hw2]
 rotate_left
 ·exact no 1 p2
 have q3 := Au q3
 cases q4 : A0 a 0 100000 <;> simp only [go_sem, ↓reduceIte, Nat.reduceEqDiff, reduceCtorEq, V2, sp.len]
 ·exact no 1 p2
 cases q5 : decide ((ps.length : Int) = 3) <;> simp only [go_sem, ↓reduceIte, Nat.reduceEqDiff, reduceCtorEq, V2]
 ·exact no 1 p2
 have q5 := As q5
 obtain ⟨x0, i0, q0, o0, m0, h0, r0, a0⟩ := sp.str0 (n := 0) (k := 0) rfl (by omega)
 have z0 := hin m0
 simp only [go_sem, ↓reduceIte, Nat.reduceEqDiff, reduceCtorEq, a0, h0, r0]
 refine Aa (fun m' h => Ph (s := x0) (by omega) h) rfl hw2 fun r2 H3 ⟨nv, li, b1, e2, p3, sv, ov⟩ => ?_
 subst e2
 have p3 : H2 <+: H3 := p3
 have hw3 := hw2.pre p3
 have sp3 := sp.pre p3
 obtain ⟨x1, i1, q1, o1', m1, h1, r1, a1⟩ := sp3.str0 (n := 1) (k := 1) rfl (by omega)
 have z1 := hin m1
 have hi1 : decide (i1 < H3.length) = true := decide_eq_true (Em h1).1
 have w3 := Ab (3 + n) (by omega) (by omega)
 have V4 := sv.vc
 simp only [go_sem, ↓reduceIte, Nat.reduceEqDiff, reduceCtorEq, List.getElem?_toArray, Bd, V4]
 refine N2 H3.length ?_
 simp only [go_sem, ↓reduceIte, Nat.reduceEqDiff, reduceCtorEq, a1, h1, r1, w3]
 refine Aa (fun m' h => Ra (a := 3 + n) m' h) rfl hw3 fun r3 H4 ⟨⟨x8, e3⟩, e4⟩ => ?_
 subst e3
 have e4 : H4 = H3 := e4
 subst e4
 simp only [go_sem, ↓reduceIte, Nat.reduceEqDiff, reduceCtorEq]
 refine Aa (fun m' h => Zc (s := x1) (k := x8) (by omega) h) rfl hw3 fun r2 H5 ⟨T, pT, vT, b2, e2, p5, spT, svT, opT, ovT, hb⟩ => ?_
 subst e2
 have p5 : H4 <+: H5 := p5
 have V5 := spT.vc
 have V6 := svT.vc
 have hw5 := hw3.pre p5
 simp only [go_sem, ↓reduceIte, Nat.reduceEqDiff, reduceCtorEq, List.getElem?_toArray, Bd, V5, V6]
 refine ⟨by rw [hi1]; rfl, ?_⟩
 have p15 := (p2.trans p3).trans p5
 have sv5 := sv.pre p5
 cases b1 <;> simp only [go_sem, ↓reduceIte, Nat.reduceEqDiff, reduceCtorEq, V2, V4, V5, V6]
 ·exact no 1 p15
 cases b2 <;> simp only [go_sem, ↓reduceIte, Nat.reduceEqDiff, reduceCtorEq, V2, V4, V5, V6, sv5.len]
 ·exact no 1 p15
 cases q6 : decide ((li.length : Int) = 3) <;> simp only [go_sem, ↓reduceIte, Nat.reduceEqDiff, reduceCtorEq, V2, V4, V5, V6]
 ·exact no 1 p15
 have q6 := As q6
 obtain ⟨y0, i5, q5', o5, h5, r5, a5⟩ := sv5.int0 (n := 0) (k := 0) rfl (by omega)
 obtain ⟨y1, i6, q6', o6, h6, r6, a6⟩ := sv5.int0 (n := 1) (k := 1) rfl (by omega)
 obtain ⟨y2, i7, q7', o7, h7, r7, a7⟩ := sv5.int0 (n := 2) (k := 2) rfl (by omega)
 simp only [go_sem, ↓reduceIte, Nat.reduceEqDiff, reduceCtorEq, a5, h5, r5]
 cases q7 : decide (y0 = 4) <;> simp only [go_sem, ↓reduceIte, Nat.reduceEqDiff, reduceCtorEq, V2, V5, V6, a6, h6, r6]
 ·exact no 1 p15
 cases q8 : decide (y1 = n) <;> simp only [go_sem, ↓reduceIte, Nat.reduceEqDiff, reduceCtorEq, V2, V5, V6, a7, h7, r7, Cu, hw5]
 ·exact no 1 p15
 cases q9 : A0 y2 0 7 <;> simp only [go_sem, ↓reduceIte, Nat.reduceEqDiff, reduceCtorEq, V2, V5, V6]
 ·exact no 1 p15
 cases q10 : decide (T.sv = n) <;> simp only [go_sem, ↓reduceIte, Nat.reduceEqDiff, reduceCtorEq, V2, V5, V6]
 ·exact no 1 p15
 have sp5 := sp3.pre p5
 obtain ⟨x2, i8, q8', o8, m8, h8, r8, a8⟩ := sp5.str0 (n := 2) (k := 2) rfl (by omega)
 have z2 := hin m8
 refine Af ?_
 simp only [go_sem, ↓reduceIte, Nat.reduceEqDiff, reduceCtorEq, a8, h8, r8, V5, V6]
 refine Aa (fun m' h => qF (s := x2) (k := T.ky) (by omega) m' h) rfl hw5 fun r3 H6 ⟨⟨xa, ba, e3⟩, e5⟩ => ?_
 subst e3
 have e5 : H6 = H5 := e5
 subst e5
 simp only [go_sem, ↓reduceIte, Nat.reduceEqDiff, reduceCtorEq, List.getElem?_toArray, Bd]
 refine ⟨by rfl, ?_⟩
 cases ba <;> simp only [go_sem, ↓reduceIte, Nat.reduceEqDiff, reduceCtorEq, V2, V5, V6]
 ·exact no 1 p15
 cases q11 : decide (xa.1 = T.cl) <;> simp only [go_sem, ↓reduceIte, Nat.reduceEqDiff, reduceCtorEq, V2, V5, V6]
 ·exact no 1 p15
 refine Af ?_
 simp only [go_sem, ↓reduceIte, Nat.reduceEqDiff, reduceCtorEq, Nat.reduceLeDiff, a7, h7, r7, V5, V6]
 refine Aa (fun m' h => tB (x := T.rs) (a := n) (b := y2) (c := a) m' h) rfl hw5 fun r3 H7 ⟨⟨x3, e3⟩, e5⟩ => ?_
 subst e3
 have e5 : H7 = H6 := e5
 subst e5
 simp only [go_sem, ↓reduceIte, Nat.reduceEqDiff, reduceCtorEq]
 refine ⟨by rfl, ?_⟩
 cases x3 <;> simp only [go_sem, ↓reduceIte, Nat.reduceEqDiff, reduceCtorEq, V2, V5, V6, v1, v2, v3, v4]
 ·exact no 2 p15
 have s17 := s1.pre p15
 refine Aa (fun m' h => Aba (q := q) (x := xa) (a := a) (b := c.skew) s17 h) rfl hw5 fun r3 H8 ⟨q', v', l', n', e3, p8, s8, o8⟩ => ?_
 subst e3
 have p8 : H7 <+: H8 := p8
 have o8 : Ao H7.length v' := o8
 have V7 := s8.vc
 simp only [go_sem, ↓reduceIte, Nat.reduceEqDiff, reduceCtorEq, List.getElem?_toArray, Bd, V7, V2, V5, V6]
 cases q12 : decide (n' = 0) <;> simp only [go_sem, ↓reduceIte, Nat.reduceEqDiff, reduceCtorEq, V2, V5, V6, V7]
 ·exact no _ (p15.trans p8)
 obtain ⟨y3, i9, q9', o9, h9, r9, a9⟩ := (sv5.pre p8).int0 (n := 2) (k := 2) rfl (by omega)
 obtain ⟨x4, i10, q10', o10, m10, h10, r10, a10⟩ := (sp5.pre p8).str0 (n := 1) (k := 1) rfl (by omega)
 have z4 := hin m10
 refine Af ?_
 simp only [go_sem, ↓reduceIte, Nat.reduceEqDiff, reduceCtorEq, Nat.reduceLeDiff, V2, V5, V6, V7, a9, h9, r9, a10, h10, r10]
 refine ⟨by rfl, ?_⟩
 have n1 : H.length ≤ H1.length := p1.length_le
 have n2 : H1.length ≤ H2.length := p2.length_le
 have n3 : H2.length ≤ H4.length := p3.length_le
 have n5 : H4.length ≤ H7.length := p5.length_le
 exact ⟨q', v', l', ⟨n, T.cl, T.ky, y3, a, xa, T.rs, T.pa, T.vi, 0, x4⟩, pT, vT, 0, rfl, (p1.trans p15).trans p8, s8, o8.mono (by omega), spT.pre p8, Ao.mono (show Ao H4.length pT from opT) (by omega), svT.pre p8, Ao.mono (show Ao H4.length vT from ovT) (by omega), by simp only; omega⟩
theorem aZ {s : ByteArray} {c : UInt8} (h : Ej s = true) (hc : s[0]? = some c) : c = 97 ∨ c = 107 ∨ c = 108 ∨ c = 115 := by
 obtain ⟨h1, h900, h8⟩ := Ei.1 h
 have h8 : Ca s (Fa s 7) 0 = some s.size := h8
 unfold Ca at h8
 rw [hc] at h8
 by_cases a : c = 97
 ·exact .inl a
 by_cases b : c = 107
 ·exact .inr (.inl b)
 by_cases d : c = 108
 ·exact .inr (.inr (.inl d))
 by_cases e : c = 115
 ·exact .inr (.inr (.inr e))
 simp [a, b, d, e] at h8
theorem Ys {s : ByteArray} (h : Fc s 108 = true) : ∀ {i : Nat}, i ≤ (Bm (rest s 1)).1 → 1 + (Bm (rest s 1)).2 ≤ Fi s (1 + (Bm (rest s 1)).2) i
 | 0, _ => Nat.le_of_eq (Sw _ _).symm
 | i + 1, hi => C8 (Ys h (by omega)) (Om h (by omega)).2.1
theorem Qs {s p : ByteArray} (h : p ∈ (A5 s).getD []) : p.size < s.size ∧ Ej p = true := by
 cases hb : Fc s 108 with
 | false => rw [Fk hb] at h; cases h
 | true =>
  refine ⟨?_, (Mp hb h).1⟩
  rw [Fl hb] at h
  simp only [Option.getD_some, O1, List.mem_map, List.mem_range] at h
  obtain ⟨i, hi, rfl⟩ := h
  have a1 := Ys hb (i := i) (by omega)
  have a2 := (Om hb hi).2
  rw [ByteArray.size_extract]
  omega
theorem Yo {s : ByteArray} (h : Fc s 115 = true) : (Wo s).size < s.size := by
 have := Jq (C1.1 h).1
 unfold Wo
 rw [Bh]
 omega
theorem yB {vt vk : Value} {T : List ByteArray} {K : List Int} : ∀ (n : Nat) {H : Hp} {t : ByteArray}, Dz H vt T → Bu H vk K → t.size ≤ n → Ej t = true → A4 EE 202 [vt, vk, .string t] H fun r => ∃ b : Bool, r = .bool b := by
 intro n
 induction n with
 | zero => intro H t hT hK hn ht; have := (Jq ht).1; omega
 | succ n ih =>
  intro H t hT hK hn ht
  refine Ar rfl rfl xU (by simp [iF]) fun m hw => ?_
  have hz := Jq ht
  obtain ⟨c, hc⟩ := (It ht).2
  have hix : ∀ {t' : St} {x : X}, Av t'.ρ x = some (.string t) → Ky t' x (.c (.int .i64 0)) = some (.val (.int .u8 c.toNat), t') := fun {t' x} hx => H9 (i := 0) hc hx rfl
  have a98 := Ax (cL (a := t) hT)
  have a214 := Ax (Zg (H := H) (s := t) (by omega))
  have a140 := Ax (Sv (H := H) (s := rest t 1) (by rw [Bh]; omega))
  simp only [go_sem, Nat.reduceEqDiff, iF, a98, hw]
  cases q1 : Pn t T <;> simp only [go_sem, Nat.reduceEqDiff, hix, eP]
  rotate_left
  ·exact ⟨_, rfl⟩
  cases q2 : decide (c = 97) <;> simp only [go_sem, Nat.reduceEqDiff, reduceCtorEq, a214, hw, List.getElem?_toArray, Bd]
  rotate_left
  ·exact ⟨_, rfl⟩
  generalize hkk : (if Fc t 107 = true then Js t else 0) = kk
  have a183 := Ax (Yf (a := kk) hK)
  cases q3 : Fc t 107 <;> simp only [go_sem, Nat.reduceEqDiff, a183, hw]
  rotate_left
  ·exact ⟨_, rfl⟩
  refine Aa (fun m' h => Rl (s := t) (by omega) h) rfl hw fun r1 H1 ⟨pv, e1, p1, sp, op⟩ => ?_
  subst e1
  have p1 : H <+: H1 := p1
  have hw1 := hw.pre p1
  have T1 := hT.pre p1
  have K1 := hK.pre p1
  have tk : ∀ {H2 : Hp}, H <+: H2 → H2.take H.length = H := fun h => (List.prefix_iff_eq_take.1 h).symm
  cases hb8 : Fc t 108 with
  | true =>
   have e := Fl hb8
   have hps := fun {p : ByteArray} (h : p ∈ (A5 t).getD []) => Qs h
   have l12 := Jr t
   rw [show (A5 t).isSome = true by rw [e]; rfl]
   generalize (A5 t).getD [] = ps at *
   simp only [go_sem, Nat.reduceEqDiff, List.getElem?_toArray, Bd]
   refine Ak ps.length (fun i s => s.H = H1 ∧ s.ρ 0 = .val vt ∧ s.ρ 1 = .val vk ∧ s.ρ 9 = .val pv ∧ s.ρ 11 = .val (.int .i64 i)) (fun s => s.H = H1) ?_ ?_ ?_
   ·exact ⟨rfl, by simp [Ah, Cb], by simp [Ah, Cb], by simp [Ah], by simp [Ah]⟩
   ·rintro i s hi ⟨kH, k0, k1, k9, Rc⟩
    simp only [go_sem, Nat.reduceEqDiff, k0, k1, k9, Rc, sp.len]
    cases q5 : decide ((i : Int) < (ps.length : Int)) <;> simp only [go_sem, Nat.reduceEqDiff, k0, k1, k9, Rc]
    ·exact kH
    have hil : i < ps.length := by have := As q5; omega
    have w1 := Ab ((i : Int) + 1) (by omega) (by omega)
    obtain ⟨x, hx⟩ : ∃ x, ps[i]? = some x := ⟨_, B7 hil⟩
    obtain ⟨g1, g2⟩ := hps (List.mem_of_getElem? hx)
    obtain ⟨id, p, o, ho, hr, hia⟩ := sp.str hx
    simp only [go_sem, Nat.reduceEqDiff, reduceCtorEq, k0, k1, k9, Rc, hia, kH, ho, hr]
    refine Aa (fun m' h => ih T1 K1 (by omega) g2 m' h) rfl hw1 fun r2 H2 ⟨⟨b2, e2⟩, e3⟩ => ?_
    subst e2
    simp only [go_sem, Nat.reduceEqDiff, k0, k1, k9, Rc, w1]
    cases b2 <;> simp only [go_sem, Nat.reduceEqDiff, k0, k1, k9, Rc, w1]
    ·exact ⟨⟨_, rfl⟩, by rw [e3]; exact tk p1⟩
    ·exact ⟨hil, e3, by simp⟩
   ·rintro s kH
    simp only [go_sem, Nat.reduceEqDiff, reduceCtorEq]
    exact ⟨⟨_, rfl⟩, by rw [kH]; exact tk p1⟩
  | false =>
   have e := Fk hb8
   rw [show (A5 t).isSome = false by rw [e]; rfl]
   have h115 : Fc t 115 = true := by
    rcases aZ ht hc with rfl | rfl | rfl | rfl
    ·exact absurd rfl (Au q2)
    ·rw [C1.2 ⟨ht, hc⟩] at q3; cases q3
    ·rw [C1.2 ⟨ht, hc⟩] at hb8; cases hb8
    ·exact C1.2 ⟨ht, hc⟩
   have hl := Yo h115
   have hi := (Li h115).1
   have hsl : ∀ {t' : St} {x : X}, Av t'.ρ x = some (.string t) → C2 t' x (some (.c (.int .i64 1))) none = some (.val (.string (rest t 1)), t') := fun hx => D9 (k := 1) (by omega) hx rfl
   have b140 := Ax (Sv (H := H1) (s := rest t 1) (by rw [Bh]; omega))
   have b183 := Ax (Yf (a := ((Bm (rest t 1)).1 : Int)) K1)
   have w1 := Ab (1 + ((Bm (rest t 1)).2 : Int)) (by omega) (by omega)
   have e1 : (1 + ((Bm (rest t 1)).2 : Int)) = ((1 + (Bm (rest t 1)).2 : Nat) : Int) := by omega
   simp only [go_sem, Nat.reduceEqDiff, reduceCtorEq, List.getElem?_toArray, Bd, hsl, b140, hw1, b183]
   cases q4 : decide (((Bm (rest t 1)).1 : Int) ∈ K) <;> simp only [go_sem, Nat.reduceEqDiff, reduceCtorEq]
   ·exact ⟨⟨_, rfl⟩, tk p1⟩
   have hsl2 : ∀ {t' : St} {x y : X}, Av t'.ρ x = some (.string t) → Av t'.ρ y = some (.int .i64 (1 + ((Bm (rest t 1)).2 : Int))) → C2 t' x (some y) none = some (.val (.string (Wo t)), t') := fun {t' x y} hx hy => D9 (s := t') (x := x) (y := y) (b := t) (k := 1 + (Bm (rest t 1)).2) hz.2.2.1 hx (by rw [hy, e1])
   simp only [go_sem, Nat.reduceEqDiff, w1, hsl2]
   refine Aa (fun m' h => ih (t := Wo t) T1 K1 (by omega) hi m' h) rfl hw1 fun r2 H2 ⟨⟨b2, e2⟩, e3⟩ => ?_
   subst e2
   simp only [go_sem, Nat.reduceEqDiff]
   exact ⟨⟨_, rfl⟩, by rw [e3]; exact tk p1⟩
theorem S0 {t : List ByteArray} {k : List Int} (h : Im t k = true) : Zn t k := by
 obtain ⟨h1, h2, h3, h4, h5⟩ := cV.1 h
 refine ⟨h1, h2, fun i hi a ha => ?_, fun x hx => ?_, fun i hi a b ha hb => ?_⟩
 ·have := h3 i hi
  obtain ⟨_, rfl⟩ := Em ha
  simp only [Zt, Bool.and_eq_true, Bool.not_eq_true', List.any_eq_false] at this
  exact ⟨this.1, fun hm => absurd (decide_eq_true rfl) (this.2 _ hm)⟩
 ·obtain ⟨i, hi, rfl⟩ := List.getElem_of_mem hx
  have := Bz.1 (h4 i hi)
  unfold Eu
  simp [this.1, this.2]
 ·obtain ⟨_, rfl⟩ := Em ha
  obtain ⟨_, rfl⟩ := Em hb
  exact h5 i hi
theorem jL {t : List ByteArray} {k : List Int} (h : Im t k = true) : Po k := (CI.beg (S0 h)).asc
theorem Aby {H : Hp} {vt vk : Value} {T : List ByteArray} {K : List Int} {t : ByteArray} (hT : Dz H vt T) (hK : Bu H vk K) (hz : ∀ z ∈ T, z.size ≤ 4611686018427387904) (ht : t.size ≤ 4611686018427387904) : A4 EE 185 [.agg #[vt, vk], .string t] H fun r => ∃ b : Bool, r = .bool b := by
 refine Ar rfl rfl sX (by simp [jO]) fun m hw => ?_
 have V1 := hT.vc
 have V2 := hK.vc
 have a56 := Ax (rF hT hK hz)
 have a57 := Ax (X6 (H := H) ht)
 simp only [go_sem, Nat.reduceEqDiff, jO, V1, V2, a56, hw]
 cases q1 : Im T K <;> simp only [go_sem, Nat.reduceEqDiff, a57, hw]
 ·exact ⟨_, rfl⟩
 cases q2 : Ej t <;> simp only [go_sem, Nat.reduceEqDiff, reduceCtorEq, V1, V2]
 ·exact ⟨_, rfl⟩
 refine Aa (fun m' h => pB hT hK (S0 q1) h) rfl hw fun r1 H1 ⟨tv, kv, T', K', e1, p1, s1, s2, g1, g2, g3⟩ => ?_
 subst e1
 have p1 : H <+: H1 := p1
 simp only [go_sem, Nat.reduceEqDiff, List.getElem?_toArray, Bd]
 refine Aa (fun m' h => yB t.size s1 s2 (Nat.le_refl _) q2 m' h) rfl (hw.pre p1) fun r2 H2 ⟨⟨b, e2⟩, e3⟩ => ?_
 subst e2
 simp only [go_sem]
 exact ⟨⟨_, rfl⟩, by rw [e3]; exact (List.prefix_iff_eq_take.1 p1).symm⟩
def KpR (H : Hp) (T : List ByteArray) (K : List Int) (r : Value) (H' : Hp) : Prop := ∃ tv kv, r = .agg #[tv, kv] ∧ H <+: H' ∧ Dz H' tv T ∧ Bu H' kv K ∧ Ao H.length tv ∧ Ao H.length kv ∧ ∀ j ∈ Ae tv, j ∉ Ae kv
theorem wR {m : Md} {H : Hp} {vt vk : Value} {T : List ByteArray} {K : List Int} (hT : Dz H vt T) (hK : Bu H vk K) (hl : T.length ≤ 1000) (hl2 : K.length ≤ 1000) (hw : Wr m H) : Ci EE m 199 [.agg #[vt, vk]] H fun r H' => KpR H T K r H' := by
 refine Bt rfl rfl Abz (by simp [kD]) ?_
 have p0 : H <+: H ++ [[]] := Eg
 have s0 : Dz (H ++ [[]]) (.slice (some ⟨H.length, 0, some 1⟩) 0 (0 * 1)) [] := Jb
 have o0 : Ao H.length (.slice (some ⟨H.length, 0, some 1⟩) 0 (0 * 1)) := .inr ⟨_, _, _, _, rfl, Nat.le_refl _⟩
 generalize hwv : Value.slice (some ⟨H.length, 0, some 1⟩) 0 (0 * 1) = wv0 at s0 o0
 obtain ⟨tv, H1, a1, a2, a3, a4, a5, a6, a7⟩ := s0.join (m := m) (N := H.length) (bytes := 16) (hT.pre p0) (fun _ => rfl) (by omega) o0 p0.length_le hw (by unfold Ev.room; simp; omega) (by unfold Ev.room; simp; omega)
 have p1 := a7 H (Nat.le_refl _) p0
 have a2 : Dz H1 tv T := by simpa using a2
 have p2 : H1 <+: H1 ++ [[]] := Eg
 have s1 : Bu (H1 ++ [[]]) (.slice (some ⟨H1.length, 0, some 1⟩) 0 (0 * 1)) [] := Eb
 have o1 : Ao H1.length (.slice (some ⟨H1.length, 0, some 1⟩) 0 (0 * 1)) := .inr ⟨_, _, _, _, rfl, Nat.le_refl _⟩
 generalize hwv2 : Value.slice (some ⟨H1.length, 0, some 1⟩) 0 (0 * 1) = wv1 at s1 o1
 obtain ⟨kv, H2, b1, b2, b3, b4, b5, b6, b7⟩ := s1.join (m := m) (N := H1.length) (bytes := 8) ((hK.pre p1).pre p2) (fun _ => rfl) (by omega) o1 p2.length_le (hw.pre p1) (by unfold Ev.room; simp; omega) (by unfold Ev.room; simp; omega)
 have p3 := b7 H1 (Nat.le_refl _) p2
 have b2 : Bu H2 kv K := by simpa using b2
 have V1 := hT.vc
 have V2 := hK.vc
 have V3 := a2.vc
 have V4 := b2.vc
 simp only [go_sem, Nat.reduceEqDiff, kD, V1, V2]
 refine Af ?_
 simp only [go_sem, Nat.reduceEqDiff, reduceCtorEq, V1, V2, Kj, E7, hwv, Ba]
 rw [a1]
 rotate_left
 ·rfl
 ·rfl
 ·rfl
 simp only [go_sem, Nat.reduceEqDiff, reduceCtorEq, V1, V2, V3, Kj, E7, hwv2, Ba]
 rw [b1]
 rotate_left
 ·rfl
 ·rfl
 ·rfl
 simp only [go_sem, Nat.reduceEqDiff, Nat.reduceLeDiff, V1, V2, V3, V4]
 refine ⟨by rfl, ?_⟩
 exact ⟨tv, kv, rfl, p1.trans p3, a2.pre p3, b2, a3, b3.mono p1.length_le, fun j hj hm => by have := a2.ids j hj; have := Bc b3 j hm; omega⟩
def LkR (H : Hp) (T : List ByteArray) (r : Value) (H' : Hp) : Prop := ∃ tv kv T' K', r = .agg #[tv, kv] ∧ H <+: H' ∧ Dz H' tv T' ∧ Bu H' kv K' ∧ Ao H.length tv ∧ Ao H.length kv ∧ (∀ j ∈ Ae tv, j ∉ Ae kv) ∧ (T' = T ∨ T' = [])
theorem Aax {m : Md} {H : Hp} {vt vk : Value} {T : List ByteArray} {K : List Int} {n : Int} (hT : Dz H vt T) (hK : Bu H vk K) (hz : ∀ z ∈ T, z.size ≤ 4611686018427387904) (hw : Wr m H) : Ci EE m 184 [.agg #[vt, vk], .int .i64 n] H fun r H' => LkR H T r H' := by
 refine Bt rfl rfl uE (by simp [mY]) ?_
 have V1 := hT.vc
 have V2 := hK.vc
 have a56 := Ax (rF hT hK hz)
 simp only [go_sem, Nat.reduceEqDiff, mY, V1, V2, a56, hw]
 cases q1 : Im T K <;> simp only [go_sem, Nat.reduceEqDiff, reduceCtorEq, V1, V2]
 ·exact ⟨_, _, [], [], rfl, List.prefix_refl _, Bl, Bl, .inl rfl, .inl rfl, fun j hj => by simp [Ae] at hj, .inr rfl⟩
 have h60 := (S0 q1).1
 have h40 := (S0 q1).2.1
 have hasc := jL q1
 refine Aa (fun m' h => wR hT hK (by omega) (by omega) h) rfl hw fun r1 H1 ⟨tv, kv, e1, p1, s1, s2, o1, o2, hd⟩ => ?_
 subst e1
 have p1 : H <+: H1 := p1
 have o1 : Ao H.length tv := o1
 have o2 : Ao H.length kv := o2
 have hw1 := hw.pre p1
 have V3 := s1.vc
 have V4 := s2.vc
 have no : LkR H T (.agg #[tv, kv]) H1 := ⟨tv, kv, T, K, rfl, p1, s1, s2, o1, o2, hd, .inl rfl⟩
 have a183 := Ax (Yf (a := n) s2)
 simp only [go_sem, Nat.reduceEqDiff, reduceCtorEq, V3, V4, Cu, hw1]
 cases q2 : A0 n 1 1000000 <;> simp only [go_sem, Nat.reduceEqDiff, reduceCtorEq, V3, V4, a183, hw1]
 ·exact no
 cases q3 : decide (n ∈ K) <;> simp only [go_sem, Nat.reduceEqDiff, reduceCtorEq, V3, V4, s2.len]
 rotate_left
 ·exact no
 cases q4 : decide ((K.length : Int) < 40) <;> simp only [go_sem, Nat.reduceEqDiff, reduceCtorEq, V3, V4]
 ·exact no
 refine Aa (fun m' h => oI (x := n) s2 hasc (by omega) h) rfl hw1 fun r2 H2 ⟨p2, s3, o3⟩ => ?_
 have p2 : H1 <+: H2 := p2
 have V5 := s3.vc
 simp only [go_sem, Nat.reduceEqDiff, V3, V4, V5]
 have n1 : H.length ≤ H1.length := p1.length_le
 have ho3 : Ao H.length r2 ∧ ∀ j ∈ Ae tv, j ∉ Ae r2 := by
  rcases o3 with rfl | o3
  ·exact ⟨o2, hd⟩
  ·exact ⟨Ao.mono (show Ao H1.length r2 from o3) n1, fun j hj hm => by have := s1.ids j hj; have := Bc (show Ao H1.length r2 from o3) j hm; omega⟩
 exact ⟨tv, r2, T, _, rfl, p1.trans p2, s1.pre p2, s3, o1, ho3.1, ho3.2, .inl rfl⟩
theorem C9.app1 {α : Type} {m : Md} {κ : Nat → Nat} {c : Nat} {R : α → List Value → Prop} {esz bytes : Nat} {H : Hp} {v : Value} {l : List α} {a : α} {cs : List Value} (h : C9 κ c R esz H v l) (hw0 : Wr m H) (hw : ∀ id ∈ Ae v, m.wr id = true) (hnr : m.nr = true → cs.all scal = true) (hcs : cs.length = esz) (ha : R a cs)
  (hb : (l.length + 1) * bytes ≤ Ev.room) (hb2 : l.length + 1 ≤ Ev.room) :
  ∃ v' H', (∀ (s : St) (x y : X), s.H = H → Av s.ρ x = some v → ex s.ρ y = .vs 1 cs → Ce m s esz bytes x y = some (.val v', { s with H := H' })) ∧ C9 (Cm κ H.length c) c R esz H' v' (l ++ [a]) ∧ Kh κ (Cm κ H.length c) H H' c ∧ ∀ j ∈ Ae v', j ∈ Ae v ∨ H.length ≤ j := by
 obtain ⟨v', H', a1, a2, a3, a4, a5, a6, a7⟩ := h.1.app (m := Wb m) (N := 0) (n := 1) (bytes := bytes) (l2 := [a]) (cs := cs) h.2.2 (Nat.zero_le _) (fun _ _ => rfl) hnr (by simp) (by simp [hcs]) (fun i b hi => by
  cases i with
  | zero => simp at hi; subst hi; simp [← hcs]; exact ha
  | succ i => simp at hi) (by simpa using hb) (by simpa using hb2)
 refine ⟨v', H', fun s x y hH hx hy => ?_, ⟨a2, KC.app h.2.1 h.1.ids a6, a3⟩, Kh.app h.2.1 a4 a5, a6⟩
 rw [Vz (m := m) (m2 := Wb m) rfl hx hw fun _ _ => rfl]
 exact a1 s x y hH hx (by rw [hy]; simp [F8, hcs])
theorem C9.mono {α : Type} {κ : Nat → Nat} {c : Nat} {R R' : α → List Value → Prop} {esz : Nat} {H : Hp} {v : Value} {l : List α} (h : C9 κ c R esz H v l) (hR : ∀ a cs, R a cs → R' a cs) : C9 κ c R' esz H v l :=
 ⟨h.1.frame (fun a _ cs h => hR a cs h) (fun _ _ _ _ _ _ => rfl), h.2⟩
theorem C9.put {α : Type} {κ : Nat → Nat} {c : Nat} {R : α → List Value → Prop} {esz : Nat} {H : Hp} {v : Value} {l : List α} (h : C9 κ c R esz H v l) {n : Int} (h0 : 0 ≤ n) (h1 : n < l.length) : ∃ (id p : Nat) (o : List Value), H[id]? = some o ∧ p + esz ≤ o.length ∧ id ∈ Ae v ∧
  (∀ (s : St) (x y : X), Av s.ρ x = some v → Av s.ρ y = some (.int .i64 n) → B4 s esz x y = some (.val (.pointer (some ⟨id, p, some o.length⟩)), s)) ∧
  ∀ a cs, cs.length = esz → R a cs → C9 κ c R esz (H.set id (spl o p cs)) v (l.set n.toNat a) ∧ Kh κ κ H (H.set id (spl o p cs)) c := by
 obtain ⟨k, rfl⟩ := Int.eq_ofNat_of_zero_le h0
 obtain ⟨id, p, o, a1, a2, a3, a4, a5⟩ := h.1.store (i := k) (by omega)
 have hid : id ∈ Ae v := by rw [a3]; simp
 refine ⟨id, p, o, a1, a2, hid, a4, fun a cs hc hR => ⟨⟨a5 a cs hc hR, h.2.1, h.2.2⟩, ⟨by simp, fun _ _ => rfl, fun j hj hn => ?_⟩⟩⟩
 rw [List.getElem?_set_ne (fun e => hn (by rw [← e]; exact h.2.1 id hid))]
def pG (κ : Nat → Nat) (H : Hp) (w : Wd) (f : Rf) (r : Value) (H' : Hp) : Prop := ∃ (κ' : Nat → Nat) (w' : Wd) (f' : Rf) (b : Bool), r = .tuple #[Mv w' f', .bool b] ∧ He κ' H' w' f' ∧ Pe w' ∧ Fr κ κ' H H' ∧ G8 H.length f f' ∧ (b = false → w' = w ∧ f' = f ∧ κ' = κ ∧ H' = H) ∧ w'.log = w.log
theorem nY {m : Md} {κ : Nat → Nat} {H : Hp} {w : Wd} {f : Rf} {t : ByteArray} (q : He κ H w f) (hi : Pe w) (ht : t.size ≤ 1000) (hw : Wr m H) (hm : MW m f) : Ci EE m 186 [Mv w f, .string t] H fun r H' => pG κ H w f r H' := by
 refine Bt rfl rfl sD (by simp [jK]) ?_
 obtain ⟨v1, v2, v3, v4, v5, v6, v7, v8, v9, v10, v11, v12, v13⟩ := q.vcs
 have same : pG κ H w f (.tuple #[Mv w f, .bool false]) H := ⟨κ, w, f, false, rfl, q, hi, Fr.refl _ _, G8.refl _ _, fun _ => ⟨rfl, rfl, rfl, rfl⟩, rfl⟩
 have qn := q.n (by decide)
 simp only [go_sem, Nat.reduceEqDiff, jK, v1, v2, v3, v4, v5, v6, v7, v8, v9, v10, v11, v12, v13]
 cases q1 : decide (t = ⟨#[]⟩) <;> simp only [go_sem, Nat.reduceEqDiff, reduceCtorEq, qn.1.len, v1, v2, v3, v4, v5, v6, v7, v8, v9, v10, v11, v12, v13]
 rotate_left
 ·exact same
 cases q2 : decide ((w.net.length : Int) ≥ 50) <;> simp only [go_sem, Nat.reduceEqDiff, reduceCtorEq, v1, v2, v3, v4, v5, v6, v7, v8, v9, v10, v11, v12, v13]
 rotate_left
 ·exact same
 have q2 := Au q2
 obtain ⟨n', H1, a1, a2, a3, a4⟩ := qn.app1 (m := m) (bytes := 16) (a := t) (cs := [.string t]) hw (hm f.n (by simp [Be])) (fun _ => rfl) rfl rfl (by unfold Ev.room; omega) (by unfold Ev.room; omega)
 rw [a1]
 rotate_left
 ·rfl
 ·rfl
 ·rfl
 have Q1 := (Eo.keep q a3 (by decide)).f1 a2
 have V5 := a2.1.vc
 have T1 := Q1.t (by decide)
 have K1 := Q1.k (by decide)
 simp only [go_sem, Nat.reduceEqDiff, Nat.reduceLeDiff, v1, v2, v3, v4, V5, v6, v7, v8, v9, v10, v11, v12, v13]
 have hw1 : Wr m H1 := fun id hid => hw id (C8 a3.len hid)
 refine Ap rfl (fun m' h hz _ => pK (x := t) T1.1 T1.2.2 K1.1 ht h (fun id hid => hz id (by
  have := dJ T1.1 K1.1 id (.inl hid)
  simp only [List.flatMap_cons, List.mem_append]
  exact .inl this) (hm f.t (by simp [Be]) id hid))) rfl hw1 fun r1 H2 ⟨t', T', e1, b1, b2, b3, b4, b5, b6, b7⟩ => ?_
 subst e1
 have b4 : H1.length ≤ H2.length := b4
 have b5 : ∀ j, j < H1.length → j ∉ Ae f.t → H2[j]? = H1[j]? := b5
 have b6 : ∀ j ∈ Ae t', j ∈ Ae f.t ∨ H1.length ≤ j := b6
 have k2 : Kh (Cm κ H.length 1) (Cm (Cm κ H.length 1) H1.length 2) H1 H2 2 := Kh.app T1.2.1 b5 b4
 have T2 : C9 (Cm (Cm κ H.length 1) H1.length 2) 2 (En eS) 1 H2 t' T' := ⟨b1, KC.app T1.2.1 T1.1.ids b6, b7⟩
 have Q2 := (Eo.keep Q1 k2 (by decide)).f2 T2 (K1.keep k2 (by decide) fun _ _ h => h)
 have V6 := T2.1.vc
 simp only [go_sem, Nat.reduceEqDiff, Nat.reduceLeDiff, v1, v2, v3, v4, V5, V6, v7, v8, v9, v10, v11, v12, v13]
 refine ⟨_, _, _, true, rfl, Q2, ⟨hi.wl, hi.cl, fun z hz => ?_, fun z hz => ?_, ?_, hi.crs, hi.acs, by simp; omega, hi.bd.2⟩, (a3.fr (.inl (by omega))).trans (k2.fr (.inl (by omega))), ?_, (fun h => by cases h), rfl⟩
 ·rcases Lh hz with h | h
  ·exact hi.net z h
  ·rw [bJ h]; exact ht
 ·rcases b2 z hz with h | h
  ·exact hi.tms z h
  ·exact h
 ·rcases b3 with h | h
  ·exact h
  ·show T'.length ≤ 60
   rw [h]; exact hi.tl
 ·intro v hv id hid
  simp only [Be, List.mem_cons, List.not_mem_nil, or_false] at hv
  rcases hv with rfl | rfl | hv
  ·rcases a4 id hid with h | h
   ·exact .inr ⟨f.n, by simp [Be], h⟩
   ·exact .inl h
  ·rcases b6 id hid with h | h
   ·exact .inr ⟨f.t, by simp [Be], h⟩
   ·exact .inl (C8 a3.len h)
  ·exact .inr ⟨v, by simp only [Be, List.mem_cons, List.not_mem_nil, or_false]; exact .inr (.inr hv), hid⟩
theorem Eo.num {κ : Nat → Nat} {H : Hp} {w : Wd} {f : Rf} (q : He κ H w f) (a b : Int) : He κ H { w with now := a, fresh := b } f := ⟨q.u, q.s, q.l, q.p, q.n, q.t, q.k, q.a, q.c, q.h, q.e, q.x, q.d⟩
theorem Pe.num {w : Wd} (h : Pe w) (a b : Int) : Pe { w with now := a, fresh := b } := ⟨h.wl, h.cl, h.net, h.tms, h.tl, h.crs, h.acs, h.bd⟩
theorem iG {κ : Nat → Nat} {H : Hp} {w : Wd} {f : Rf} (q : He κ H w f) {v : Value} (hv : v ∈ Be f) : ∀ id ∈ Ae v, id ∈ Ae (Mv w f) := fun id hid => by
 have o : ∀ {u : Value}, Ao 0 u → id ∈ Ae u → id ∈ Xz u := fun {u} h k => by
  rcases h with rfl | ⟨i, e, l, c, rfl, _⟩
  ·simp [Ae] at k
  ·simpa [Ae, Xz] using k
 have : id ∈ Xz v := o (by
  simp only [Be, List.mem_cons, List.not_mem_nil, or_false] at hv
  rcases hv with rfl | rfl | rfl | rfl | rfl | rfl | rfl | rfl
  ·exact (q.n (by decide)).2.2
  ·exact (q.t (by decide)).2.2
  ·exact (q.a (by decide)).2.2
  ·exact (q.c (by decide)).2.2
  ·exact (q.h (by decide)).2.2
  ·exact (q.e (by decide)).2.2
  ·exact (q.x (by decide)).2.2
  ·exact (q.d (by decide)).2.2) hid
 show id ∈ List.flatMap Xz _
 refine List.mem_flatMap.2 ⟨v, ?_, this⟩
 simp only [Be, List.mem_cons, List.not_mem_nil, or_false] at hv
 rcases hv with rfl | rfl | rfl | rfl | rfl | rfl | rfl | rfl <;> simp
theorem MW.arg {κ : Nat → Nat} {H : Hp} {w : Wd} {f : Rf} (q : He κ H w f) {m m' : Md} {vs : List Value} (hm : MW m f) (h : ∀ id ∈ (Mv w f :: vs).flatMap Ae, m.wr id = true → m'.wr id = true) : MW m' f := fun v hv id hid =>
 h id (by rw [List.flatMap_cons]; exact List.mem_append_left _ (iG q hv id hid)) (hm v hv id hid)
theorem dO {m : Md} {κ : Nat → Nat} {H : Hp} {w : Wd} {f : Rf} {t : ByteArray} (q : He κ H w f) (hi : Pe w) (ht : t.size ≤ 1000) (hw : Wr m H) (hm : MW m f) : Ci EE m 175 [Mv w f, .string t] H fun r H' => pG κ H w f r H' := by
 refine Bt rfl rfl wF (by simp [mI]) ?_
 have V := q.vcs
 have same : pG κ H w f (.tuple #[Mv w f, .bool false]) H := ⟨κ, w, f, false, rfl, q, hi, Fr.refl _ _, G8.refl _ _, fun _ => ⟨rfl, rfl, rfl, rfl⟩, rfl⟩
 simp only [go_sem, Nat.reduceEqDiff, reduceCtorEq, mI, V]
 cases q1 : decide (w.fresh ≥ 1000000) <;> simp only [go_sem, Nat.reduceEqDiff, reduceCtorEq, V]
 rotate_left
 ·exact same
 refine Ap rfl (fun m' h hz _ => nY q hi ht h (MW.arg q hm hz)) rfl hw fun r1 H1 ⟨κ', w', f', b, e1, q', hi', fr, sb, hf, hlog⟩ => ?_
 subst e1
 have U := q'.vcs
 simp only [go_sem, Nat.reduceEqDiff, reduceCtorEq, List.getElem?_toArray, Bd, V, U]
 cases b <;> simp only [go_sem, Nat.reduceEqDiff, reduceCtorEq, Nat.reduceLeDiff, V, U]
 ·obtain ⟨_, _, _, e⟩ := hf rfl
  rw [e]
  exact same
 ·exact ⟨κ', { w' with now := w'.now, fresh := IntKind.i64.wrap (w'.fresh + 1) }, f', true, rfl, q'.num _ _, hi'.num _ _, fr, sb, (fun h => by cases h), hlog⟩
structure Ac where
 kd : Int
 a : Int
 b : Int
 c : Int
 d : Int
 rs : Re
 tx : ByteArray
abbrev dX (x : Ac) : Value := .agg #[.int .i64 x.kd, .int .i64 x.a, .int .i64 x.b, .int .i64 x.c, .int .i64 x.d, .int .i64 x.rs.1, .int .i64 x.rs.2.1, .int .i64 x.rs.2.2, .string x.tx]
abbrev Pc (x : Ac) : List Value := [.int .i64 x.kd, .int .i64 x.a, .int .i64 x.b, .int .i64 x.c, .int .i64 x.d, .int .i64 x.rs.1, .int .i64 x.rs.2.1, .int .i64 x.rs.2.2, .string x.tx]
abbrev M4 (w : Wd) (r : Rf) : List Value := [r.u, r.s, r.l, r.p, .int .i64 w.cf.skew, .int .i64 w.now, .int .i64 w.fresh, r.n, r.t, r.k, r.a, r.c, r.h, r.e, r.x, r.d]
structure TH (w : Wd) (x : Ac) : Prop where
 k2 : x.kd = 2 → 0 ≤ x.a ∧ x.a ≤ 5
 k3 : x.kd = 3 → (0 ≤ x.a ∧ x.a ≤ 5) ∧ (0 ≤ x.b ∧ x.b < w.crs.length) ∧ x.d ≤ w.acs.length
 k4 : x.kd = 4 → (0 ≤ x.a ∧ x.a ≤ 2) ∧ 0 ≤ x.b ∧ x.b < w.net.length
 k5 : x.kd = 5 → (0 ≤ x.a ∧ x.a ≤ 5) ∧ 0 ≤ x.b ∧ x.b < w.net.length
 k6 : x.kd = 6 → (0 ≤ x.a ∧ x.a ≤ 5) ∧ 0 ≤ x.b ∧ x.b < w.crs.length
 k7 : x.kd = 7 → (0 ≤ x.a ∧ x.a ≤ 2) ∧ 0 ≤ x.b ∧ x.b < w.net.length
 k10 : x.kd = 10 → 0 ≤ x.a ∧ x.a ≤ 2
def B1 (r : Value) : Prop := ∃ b : Bool, r = .bool b
theorem zO {H : Hp} {a : Int} : A4 EE 174 [.int .i64 a] H B1 := by
 refine Ar rfl rfl yZ (by simp [jA]) fun m hw => ?_
 simp only [go_sem, ↓reduceIte, Nat.reduceEqDiff, reduceCtorEq, Nat.reduceAdd, Nat.reduceLeDiff, Nat.reduceMul, jA]
 refine Ak 3 (fun i s => s.H = H ∧ s.ρ 0 = .val (.int .i64 a) ∧ s.ρ 3 = .val (.int .i64 i)) (fun s => s.H = H ∧ s.ρ 0 = .val (.int .i64 a)) ?_ ?_ ?_
 ·exact ⟨rfl, by simp [Ah, Cb], by simp [Ah]⟩
 ·rintro i s hi ⟨kH, k0, k3⟩
  simp only [go_sem, ↓reduceIte, Nat.reduceEqDiff, reduceCtorEq, Nat.reduceAdd, Nat.reduceLeDiff, Nat.reduceMul, k0, k3]
  cases q : decide ((i : Int) < 3) <;> simp only [go_sem, ↓reduceIte, Nat.reduceEqDiff, reduceCtorEq, Nat.reduceAdd, Nat.reduceLeDiff, Nat.reduceMul, k0, k3]
  ·exact kH
  have hil : i < 3 := by have := As q; omega
  have w1 := Ab ((i : Int) + 1) (by omega) (by omega)
  refine Aa (fun m' h => jS (a := (i : Int)) m' h) kH hw fun r1 H1 ⟨⟨x1, e1⟩, e2⟩ => ?_
  subst e1
  subst e2
  simp only [go_sem, ↓reduceIte, Nat.reduceEqDiff, reduceCtorEq, Nat.reduceAdd, Nat.reduceLeDiff, Nat.reduceMul, k0, k3]
  refine Bf.intro (fun q2 => ?_) (fun q2 => ?_) <;> simp only [go_sem, ↓reduceIte, Nat.reduceEqDiff, reduceCtorEq, Nat.reduceAdd, Nat.reduceLeDiff, Nat.reduceMul, k0, k3]
  ·exact ⟨_, rfl⟩
  refine Ak 3 (fun j t => t.H = H1 ∧ t.ρ 0 = .val (.int .i64 a) ∧ t.ρ 3 = .val (.int .i64 i) ∧ t.ρ 4 = .val (.int .i64 j)) (fun t => t.H = H1 ∧ t.ρ 0 = .val (.int .i64 a) ∧ t.ρ 3 = .val (.int .i64 i)) ?_ ?_ ?_
  ·exact ⟨rfl, by simp [Ah, k0], by simp [Ah, k3], by simp [Ah]⟩
  ·rintro j t hj ⟨tH, t0, t3, t4⟩
   simp only [go_sem, ↓reduceIte, Nat.reduceEqDiff, reduceCtorEq, Nat.reduceAdd, Nat.reduceLeDiff, Nat.reduceMul, t0, t3, t4]
   cases q3 : decide ((j : Int) < 3) <;> simp only [go_sem, ↓reduceIte, Nat.reduceEqDiff, reduceCtorEq, Nat.reduceAdd, Nat.reduceLeDiff, Nat.reduceMul, t0, t3, t4]
   ·exact tH
   have hjl : j < 3 := by have := As q3; omega
   have w2 := Ab ((j : Int) + 1) (by omega) (by omega)
   cases q4 : decide ((i : Int) = (j : Int)) <;> simp only [go_sem, ↓reduceIte, Nat.reduceEqDiff, reduceCtorEq, Nat.reduceAdd, Nat.reduceLeDiff, Nat.reduceMul, t0, t3, t4, w2]
   ·refine Aa (fun m' h => jG (a := (i : Int)) (b := (j : Int)) m' h) tH hw fun r1 H2 ⟨⟨x2, e1⟩, e2⟩ => ?_
    subst e1
    subst e2
    simp only [go_sem, ↓reduceIte, Nat.reduceEqDiff, reduceCtorEq, Nat.reduceAdd, Nat.reduceLeDiff, Nat.reduceMul, t0, t3, t4]
    refine Bf.intro (fun q5 => ?_) (fun q5 => ?_) <;> simp only [go_sem, ↓reduceIte, Nat.reduceEqDiff, reduceCtorEq, Nat.reduceAdd, Nat.reduceLeDiff, Nat.reduceMul, t0, t3, t4, w2]
    ·exact ⟨_, rfl⟩
    ·exact ⟨hjl, by simp⟩
   ·exact ⟨hjl, tH, by simp⟩
  ·rintro t ⟨tH, t0, t3⟩
   simp only [go_sem, ↓reduceIte, Nat.reduceEqDiff, reduceCtorEq, Nat.reduceAdd, Nat.reduceLeDiff, Nat.reduceMul, t0, t3, w1]
   exact ⟨hil, tH, by simp⟩
 ·rintro s ⟨kH, k0⟩
  simp only [go_sem, ↓reduceIte, Nat.reduceEqDiff, reduceCtorEq, Nat.reduceAdd, Nat.reduceLeDiff, Nat.reduceMul, k0]
  refine Ak 6 (fun i s => s.H = H ∧ s.ρ 0 = .val (.int .i64 a) ∧ s.ρ 5 = .val (.int .i64 i)) (fun s => s.H = H) ?_ ?_ ?_
  ·exact ⟨kH, by simp [Ah, k0], by simp [Ah]⟩
  ·rintro i s hi ⟨kH, k0, k5⟩
   simp only [go_sem, ↓reduceIte, Nat.reduceEqDiff, reduceCtorEq, Nat.reduceAdd, Nat.reduceLeDiff, Nat.reduceMul, k0, k5]
   cases q : decide ((i : Int) < 6) <;> simp only [go_sem, ↓reduceIte, Nat.reduceEqDiff, reduceCtorEq, Nat.reduceAdd, Nat.reduceLeDiff, Nat.reduceMul, k0, k5]
   ·exact kH
   have hil : i < 6 := by have := As q; omega
   have w1 := Ab ((i : Int) + 1) (by omega) (by omega)
   refine Aa (fun m' h => Ra (a := (i : Int)) m' h) kH hw fun r1 H1 ⟨⟨x1, e1⟩, e2⟩ => ?_
   subst e1
   subst e2
   simp only [go_sem, ↓reduceIte, Nat.reduceEqDiff, reduceCtorEq, Nat.reduceAdd, Nat.reduceLeDiff, Nat.reduceMul, k0, k5]
   refine Bf.intro (fun q2 => ?_) (fun q2 => ?_) <;> simp only [go_sem, ↓reduceIte, Nat.reduceEqDiff, reduceCtorEq, Nat.reduceAdd, Nat.reduceLeDiff, Nat.reduceMul, k0, k5, w1]
   ·exact ⟨_, rfl⟩
   ·exact ⟨hil, by simp⟩
  ·rintro s kH
   simp only [go_sem, ↓reduceIte, Nat.reduceEqDiff, reduceCtorEq, Nat.reduceAdd, Nat.reduceLeDiff, Nat.reduceMul, kH]
   exact ⟨_, rfl⟩
theorem vI {κ : Nat → Nat} {H : Hp} {w : Wd} {f : Rf} {x : Ac} (q : He κ H w f) : A4 EE 165 [Mv w f, dX x] H fun r => ∃ b : Bool, r = .bool b ∧ (b = true → TH w x) := by
 refine Ar rfl rfl rW (by simp [mF]) fun m hw => ?_
 have V := q.vcs
 have qc := q.c (by decide)
 have qn := q.n (by decide)
 have qx := q.x (by decide)
 simp only [go_sem, ↓reduceIte, Nat.reduceEqDiff, reduceCtorEq, Nat.reduceAdd, Nat.reduceLeDiff, Nat.reduceMul, mF, V]
 refine Nu (fun s => s.H = H ∧ (∃ g, s.ρ 2 = .bx g (M4 w f)) ∧ (∃ g, s.ρ 3 = .bx g (Pc x)) ∧ ∃ b5, s.ρ 5 = .val (.bool b5) ∧ (b5 = true → 0 ≤ x.b ∧ x.b < w.crs.length)) ?_ ?_
 ·refine Af ?_
  simp only [go_sem, ↓reduceIte, Nat.reduceEqDiff, reduceCtorEq, Nat.reduceAdd, Nat.reduceLeDiff, Nat.reduceMul, qc.1.len]
  cases p0 : decide (x.b ≥ 0) <;> simp only [go_sem, ↓reduceIte, Nat.reduceEqDiff, reduceCtorEq, Nat.reduceAdd, Nat.reduceLeDiff, Nat.reduceMul, qc.1.len]
  ·refine ⟨by rfl, ?_⟩
   exact ⟨⟨_, rfl⟩, ⟨_, rfl⟩, false, rfl, fun h => by cases h⟩
  cases p1 : decide (x.b < (w.crs.length : Int)) <;> simp only [go_sem, ↓reduceIte, Nat.reduceEqDiff, reduceCtorEq, Nat.reduceAdd, Nat.reduceLeDiff, Nat.reduceMul, qc.1.len]
  ·refine ⟨by rfl, ?_⟩
   exact ⟨⟨_, rfl⟩, ⟨_, rfl⟩, false, rfl, fun h => by cases h⟩
  have p0 := As p0
  have p1 := As p1
  obtain ⟨k, hk⟩ := Int.eq_ofNat_of_zero_le p0
  obtain ⟨id, p, o, ho, hr, hp, hia⟩ := qc.1.elem (i := k) (B7 (by omega))
  have hia' : ∀ (s : St) (y z : X), Av s.ρ y = some f.c → Av s.ρ z = some (.int .i64 x.b) → B4 s 8 y z = some (.val (.pointer (some ⟨id, p, some o.length⟩)), s) := fun s y z hy hz => hia s y z hy (by rw [hz, hk])
  have r0 := Al (show (o.drop p).take 8 = T5 (w.crs[k]'(by omega)) from hr) (j := 0) (by omega)
  simp only [Nat.add_zero, T5, List.getElem?_cons_zero] at r0
  simp only [go_sem, ↓reduceIte, Nat.reduceEqDiff, reduceCtorEq, Nat.reduceAdd, Nat.reduceLeDiff, Nat.reduceMul, qc.1.len, hia', ho, r0]
  refine ⟨by rfl, ?_⟩
  exact ⟨⟨_, rfl⟩, ⟨_, rfl⟩, _, rfl, fun _ => ⟨p0, p1⟩⟩
 ·rintro s ⟨kH, ⟨g2, k2⟩, ⟨g3, k3⟩, b5, k5, h5⟩
  rw [F6]
  refine Nu (fun s => s.H = H ∧ (∃ g, s.ρ 2 = .bx g (M4 w f)) ∧ (∃ g, s.ρ 3 = .bx g (Pc x)) ∧ s.ρ 5 = .val (.bool b5) ∧ ∃ b6, s.ρ 6 = .val (.bool b6) ∧ (b6 = true → 0 ≤ x.b ∧ x.b < w.net.length)) ?_ ?_
  ·simp only [go_sem, ↓reduceIte, Nat.reduceEqDiff, reduceCtorEq, Nat.reduceAdd, Nat.reduceLeDiff, Nat.reduceMul, k2, k3, k5, qn.1.len]
   cases p0 : decide (x.b ≥ 0) <;> simp only [go_sem, ↓reduceIte, Nat.reduceEqDiff, reduceCtorEq, Nat.reduceAdd, Nat.reduceLeDiff, Nat.reduceMul, k2, k3, k5, qn.1.len]
   ·exact ⟨kH, ⟨_, rfl⟩, ⟨_, rfl⟩, false, rfl, fun h => by cases h⟩
   ·exact ⟨kH, ⟨_, rfl⟩, ⟨_, rfl⟩, _, rfl, fun h => ⟨As p0, As h⟩⟩
  ·clear k2 k3 k5 kH
   rintro s ⟨kH, ⟨g2, k2⟩, ⟨g3, k3⟩, k5, b6, k6, h6⟩
   have a61 := Ax (cW (H := H) (a := x.a))
   have a173 := Ax (Ul (H := H) (a := x.a))
   simp only [go_sem, ↓reduceIte, Nat.reduceEqDiff, reduceCtorEq, Nat.reduceAdd, Nat.reduceLeDiff, Nat.reduceMul, k2, k3]
   cases c2 : decide (x.kd = 2) <;> simp only [go_sem, ↓reduceIte, Nat.reduceEqDiff, reduceCtorEq, Nat.reduceAdd, Nat.reduceLeDiff, Nat.reduceMul, k2, k3, kH, a61, hw]
   rotate_left
   ·have c2 := As c2
    refine ⟨_, rfl, fun h => ⟨fun _ => Bz.1 h, ?_, ?_, ?_, ?_, ?_, ?_⟩⟩ <;> exact fun h => by omega
   have c2 := Au c2
   cases c3 : decide (x.kd = 3) <;> simp only [go_sem, ↓reduceIte, Nat.reduceEqDiff, reduceCtorEq, Nat.reduceAdd, Nat.reduceLeDiff, Nat.reduceMul, k2, k3, kH]
   rotate_left
   ·have c3 := As c3
    have fin : (b5 = true → TH w x) → True := fun _ => trivial
    refine Af ?_
    simp only [go_sem, ↓reduceIte, Nat.reduceEqDiff, reduceCtorEq, Nat.reduceAdd, Nat.reduceLeDiff, Nat.reduceMul, k2, k3, kH, qx.1.len]
    cases d1 : decide (x.d > (w.acs.length : Int)) <;> simp only [go_sem, ↓reduceIte, Nat.reduceEqDiff, reduceCtorEq, Nat.reduceAdd, Nat.reduceLeDiff, Nat.reduceMul, k2, k3, kH, qx.1.len]
    rotate_left
    ·refine ⟨by rfl, ?_⟩
     exact ⟨_, rfl, fun h => by cases h⟩
    have d1 := Au d1
    have TH3 : A0 x.a 0 5 = true → b5 = true → TH w x := fun g1 g2 => by
     refine ⟨?_, fun _ => ⟨Bz.1 g1, h5 g2, by omega⟩, ?_, ?_, ?_, ?_, ?_⟩ <;> exact fun h => by omega
    cases d2 : decide (x.d > 0) <;> simp only [go_sem, ↓reduceIte, Nat.reduceEqDiff, reduceCtorEq, Nat.reduceAdd, Nat.reduceLeDiff, Nat.reduceMul, k2, k3, kH, qx.1.len]
    ·refine ⟨by rfl, ?_⟩
     simp only [go_sem, ↓reduceIte, Nat.reduceEqDiff, reduceCtorEq, Nat.reduceAdd, Nat.reduceLeDiff, Nat.reduceMul, k2, k3, k5, kH, a61, hw]
     cases e1 : A0 x.a 0 5 <;> simp only [go_sem, ↓reduceIte, Nat.reduceEqDiff, reduceCtorEq, Nat.reduceAdd, Nat.reduceLeDiff, Nat.reduceMul, k5, kH]
     ·exact ⟨_, rfl, fun h => by cases h⟩
     ·exact ⟨_, rfl, fun h => TH3 e1 h⟩
    have d2 := As d2
    have w1 := Ab (x.d - 1) (by have := qx.1.room; unfold Ev.room at this; omega) (by have := qx.1.room; unfold Ev.room at this; omega)
    obtain ⟨k, hk⟩ := Int.eq_ofNat_of_zero_le (show 0 ≤ x.d - 1 by omega)
    obtain ⟨id, p, o, ho, hr, hp, hia⟩ := qx.1.elem (i := k) (B7 (by omega))
    have hia' : ∀ (s : St) (y z : X), Av s.ρ y = some f.x → Av s.ρ z = some (.int .i64 (x.d - 1)) → B4 s 15 y z = some (.val (.pointer (some ⟨id, p, some o.length⟩)), s) := fun s y z hy hz => hia s y z hy (by rw [hz, hk])
    obtain ⟨pa, va, hr, _⟩ := hr
    have r0 := Al hr (j := 0) (by omega)
    simp only [Nat.add_zero, List.getElem?_cons_zero] at r0
    simp only [go_sem, ↓reduceIte, Nat.reduceEqDiff, reduceCtorEq, Nat.reduceAdd, Nat.reduceLeDiff, Nat.reduceMul, k2, k3, kH, w1, hia', ho, r0]
    refine ⟨by rfl, ?_⟩
    refine Bf.intro (fun qq => ?_) (fun qq => ?_) <;> simp only [go_sem, ↓reduceIte, Nat.reduceEqDiff, reduceCtorEq, Nat.reduceAdd, Nat.reduceLeDiff, Nat.reduceMul, k2, k3, k5, kH, a61, hw]
    ·cases e1 : A0 x.a 0 5 <;> simp only [go_sem, ↓reduceIte, Nat.reduceEqDiff, reduceCtorEq, Nat.reduceAdd, Nat.reduceLeDiff, Nat.reduceMul, k5, kH]
     ·exact ⟨_, rfl, fun h => by cases h⟩
     ·exact ⟨_, rfl, fun h => TH3 e1 h⟩
    ·exact ⟨_, rfl, fun h => by cases h⟩
   have c3 := Au c3
   cases c4 : decide (x.kd = 4) <;> simp only [go_sem, ↓reduceIte, Nat.reduceEqDiff, reduceCtorEq, Nat.reduceAdd, Nat.reduceLeDiff, Nat.reduceMul, k2, k3, k6, kH, a173, hw]
   rotate_left
   ·have c4 := As c4
    cases e1 : A0 x.a 0 2 <;> simp only [go_sem, ↓reduceIte, Nat.reduceEqDiff, reduceCtorEq, Nat.reduceAdd, Nat.reduceLeDiff, Nat.reduceMul, k2, k3, k6, kH]
    ·exact ⟨_, rfl, fun h => by cases h⟩
    ·refine ⟨_, rfl, fun h => ⟨?_, ?_, fun _ => ⟨Bz.1 e1, h6 h⟩, ?_, ?_, ?_, ?_⟩⟩ <;> exact fun h => by omega
   have c4 := Au c4
   cases c5 : decide (x.kd = 5) <;> simp only [go_sem, ↓reduceIte, Nat.reduceEqDiff, reduceCtorEq, Nat.reduceAdd, Nat.reduceLeDiff, Nat.reduceMul, k2, k3, k6, kH, a61, hw]
   rotate_left
   ·have c5 := As c5
    cases e1 : A0 x.a 0 5 <;> simp only [go_sem, ↓reduceIte, Nat.reduceEqDiff, reduceCtorEq, Nat.reduceAdd, Nat.reduceLeDiff, Nat.reduceMul, k2, k3, k6, kH]
    ·exact ⟨_, rfl, fun h => by cases h⟩
    ·refine ⟨_, rfl, fun h => ⟨?_, ?_, ?_, fun _ => ⟨Bz.1 e1, h6 h⟩, ?_, ?_, ?_⟩⟩ <;> exact fun h => by omega
   have c5 := Au c5
   cases c6 : decide (x.kd = 6) <;> simp only [go_sem, ↓reduceIte, Nat.reduceEqDiff, reduceCtorEq, Nat.reduceAdd, Nat.reduceLeDiff, Nat.reduceMul, k2, k3, k5, k6, kH, a61, hw]
   rotate_left
   ·have c6 := As c6
    cases e1 : A0 x.a 0 5 <;> simp only [go_sem, ↓reduceIte, Nat.reduceEqDiff, reduceCtorEq, Nat.reduceAdd, Nat.reduceLeDiff, Nat.reduceMul, k2, k3, k5, k6, kH, Cu, hw]
    ·exact ⟨_, rfl, fun h => by cases h⟩
    cases b5 <;> simp only [go_sem, ↓reduceIte, Nat.reduceEqDiff, reduceCtorEq, Nat.reduceAdd, Nat.reduceLeDiff, Nat.reduceMul, k2, k3, k5, k6, kH, Cu, hw]
    ·exact ⟨_, rfl, fun h => by cases h⟩
    ·refine ⟨_, rfl, fun h => ⟨?_, ?_, ?_, ?_, fun _ => ⟨Bz.1 e1, h5 rfl⟩, ?_, ?_⟩⟩ <;> exact fun h => by omega
   have c6 := Au c6
   cases c7 : decide (x.kd = 7) <;> simp only [go_sem, ↓reduceIte, Nat.reduceEqDiff, reduceCtorEq, Nat.reduceAdd, Nat.reduceLeDiff, Nat.reduceMul, k2, k3, k5, k6, kH, Cu, hw]
   rotate_left
   ·have c7 := As c7
    cases e1 : A0 x.a 0 2 <;> simp only [go_sem, ↓reduceIte, Nat.reduceEqDiff, reduceCtorEq, Nat.reduceAdd, Nat.reduceLeDiff, Nat.reduceMul, k2, k3, k6, kH]
    ·exact ⟨_, rfl, fun h => by cases h⟩
    ·refine ⟨_, rfl, fun h => ⟨?_, ?_, ?_, ?_, ?_, fun _ => ⟨Bz.1 e1, h6 h⟩, ?_⟩⟩ <;> exact fun h => by omega
   have c7 := Au c7
   cases c8 : decide (x.kd = 8) <;> simp only [go_sem, ↓reduceIte, Nat.reduceEqDiff, reduceCtorEq, Nat.reduceAdd, Nat.reduceLeDiff, Nat.reduceMul, k2, k3, k5, k6, kH]
   rotate_left
   ·have c8 := As c8
    refine Aa (fun m' h => zO (a := x.a) m' h) rfl hw fun r1 H1 ⟨⟨b1, e1⟩, e2⟩ => ?_
    subst e1
    simp only [go_sem, ↓reduceIte, Nat.reduceEqDiff, reduceCtorEq, Nat.reduceAdd, Nat.reduceLeDiff, Nat.reduceMul]
    refine ⟨⟨_, rfl, fun h => ⟨?_, ?_, ?_, ?_, ?_, ?_, ?_⟩⟩, ?_⟩
    all_goals first | exact fun h => by omega | (rw [e2]; exact List.take_length) | exact e2
   have c8 := Au c8
   cases eY : decide (x.kd = 10) <;> simp only [go_sem, ↓reduceIte, Nat.reduceEqDiff, reduceCtorEq, Nat.reduceAdd, Nat.reduceLeDiff, Nat.reduceMul, k2, k3, k5, k6, kH, Cu, hw]
   ·have eY := Au eY
    refine ⟨_, rfl, fun h => ⟨?_, ?_, ?_, ?_, ?_, ?_, ?_⟩⟩ <;> exact fun h => by omega
   ·have eY := As eY
    refine ⟨_, rfl, fun h => ⟨?_, ?_, ?_, ?_, ?_, ?_, fun _ => Bz.1 h⟩⟩ <;> exact fun h => by omega
def Nq (κ : Nat → Nat) (H : Hp) (f : Rf) (r : Value) (H' : Hp) : Prop := ∃ (κ' : Nat → Nat) (w' : Wd) (f' : Rf) (b : Bool), r = .tuple #[Mv w' f', .bool b] ∧ He κ' H' w' f' ∧ Pe w' ∧ Fr κ κ' H H' ∧ G8 H.length f f'
theorem Nq.same {κ : Nat → Nat} {H : Hp} {w : Wd} {f : Rf} (q : He κ H w f) (hi : Pe w) (b : Bool) : Nq κ H f (.tuple #[Mv w f, .bool b]) H := ⟨κ, w, f, b, rfl, q, hi, Fr.refl _ _, G8.refl _ _⟩
theorem G8.a {n : Nat} {r f : Rf} (s : G8 n r f) (v : Value) (h : ∀ j ∈ Ae v, j ∈ Ae f.a ∨ n ≤ j) : G8 n r { f with a := v } := s.trans (n' := n) (G8.one v (fun u hu => by
 simp only [Be, List.mem_cons, List.not_mem_nil, or_false] at hu ⊢
 rcases hu with h | h | h | h | h | h | h | h <;> simp [h]) ⟨f.a, by simp [Be], h⟩) (Nat.le_refl _)
theorem Cr.cells {H : Hp} {v : Value} {l : List Cr} (h : Sl (En T5) 8 H v l) {n : Int} (h0 : 0 ≤ n) (h1 : n < l.length) : ∃ (x : Cr) (id p : Nat) (o : List Value), x ∈ l ∧ H[id]? = some o ∧ (o.drop p).take 8 = [.int .i64 x.1, .int .i64 x.2.1, .int .i64 x.2.2.1, .int .i64 x.2.2.2.1, .int .i64 x.2.2.2.2.1.1, .int .i64 x.2.2.2.2.1.2.1, .int .i64 x.2.2.2.2.1.2.2, .string x.2.2.2.2.2] ∧ p + 8 ≤ o.length ∧
  ∀ (s : St) (y z : X), Av s.ρ y = some v → Av s.ρ z = some (.int .i64 n) → B4 s 8 y z = some (.val (.pointer (some ⟨id, p, some o.length⟩)), s) := by
 obtain ⟨k, rfl⟩ := Int.eq_ofNat_of_zero_le h0
 obtain ⟨id, p, o, ho, hr, hp, hia⟩ := h.elem (i := k) (B7 (by omega))
 exact ⟨_, id, p, o, List.getElem_mem _, ho, hr, hp, hia⟩
theorem sV {m : Md} {κ : Nat → Nat} {H : Hp} {w : Wd} {f : Rf} {x : Ac} (q : He κ H w f) (hi : Pe w) (ht : TH w x) (h3 : x.kd = 3) (hw : Wr m H) (hm : MW m f) : Ci EE m 178 [Mv w f, dX x] H fun r H' => Nq κ H f r H' := by
 refine Bt rfl rfl Abj (by simp [mT]) ?_
 have V := q.vcs
 obtain ⟨⟨g1, g2⟩, ⟨g3, g4⟩, g5⟩ := ht.k3 h3
 have qc := q.c (by decide)
 have qx := q.x (by decide)
 obtain ⟨y, id, p, o, hy, ho, hr, hp, hia⟩ := Cr.cells qc.1 g3 g4
 obtain ⟨z1, z2⟩ := hi.crs y hy
 simp only [go_sem, Nat.reduceEqDiff, reduceCtorEq, mT, V, hia, ho, hr, hp]
 cases q1 : decide (y.2.2.1 < 10) <;> simp only [go_sem, Nat.reduceEqDiff, reduceCtorEq, V]
 rotate_left
 ·exact Nq.same q hi false
 refine Bq (fun s => s.H = H ∧ (∃ g, s.ρ 2 = .bx g (M4 w f)) ∧ (∃ g, s.ρ 3 = .bx g (Pc x)) ∧ (∃ g, s.ρ 4 = .bx g [.slice none 0 0, .slice none 0 0, .slice none 0 0, .slice none 0 0, .int .i64 0, .int .i64 0, .int .i64 0, .slice none 0 0, .slice none 0 0, .slice none 0 0, .slice none 0 0, .slice none 0 0, .slice none 0 0, .slice none 0 0, .slice none 0 0, .slice none 0 0]) ∧ (∃ g, s.ρ 6 = .bx g [.int .i64 y.1, .int .i64 y.2.1, .int .i64 y.2.2.1, .int .i64 y.2.2.2.1, .int .i64 y.2.2.2.2.1.1, .int .i64 y.2.2.2.2.1.2.1, .int .i64 y.2.2.2.2.1.2.2, .string y.2.2.2.2.2]) ∧ ∃ (t : ByteArray) (cl : Int), s.ρ 7 = .val (.string t) ∧ t.size ≤ 1000 ∧ s.ρ 8 = .val (.int .i64 cl)) (fun hd => ?_) (fun hd => ?_) ?_
 ·have hd := As hd
  have w1 := Ab (x.d - 1) (by have := qx.1.room; unfold Ev.room at this; omega) (by have := qx.1.room; unfold Ev.room at this; omega)
  obtain ⟨k, hk⟩ := Int.eq_ofNat_of_zero_le (show 0 ≤ x.d - 1 by omega)
  have hkl : k < w.acs.length := by omega
  obtain ⟨id2, p2, o2, ho2, hr2, hp2, hia2⟩ := qx.1.elem (i := k) (B7 hkl)
  have hia' : ∀ (s : St) (y z : X), Av s.ρ y = some f.x → Av s.ρ z = some (.int .i64 (x.d - 1)) → B4 s 15 y z = some (.val (.pointer (some ⟨id2, p2, some o2.length⟩)), s) := fun s y z hy hz => hia2 s y z hy (by rw [hz, hk])
  obtain ⟨pa, va, hr2, _⟩ := hr2
  have r1 := Al hr2 (j := 1) (by omega)
  have r14 := Al hr2 (j := 14) (by omega)
  simp only [List.getElem?_cons_zero, List.getElem?_cons_succ] at r1 r14
  simp only [go_sem, Nat.reduceEqDiff, reduceCtorEq, V, w1, hia', ho2, r1, r14]
  exact ⟨⟨_, rfl⟩, ⟨_, rfl⟩, ⟨_, rfl⟩, ⟨_, rfl⟩, _, _, rfl, hi.acs _ (List.getElem_mem hkl), rfl⟩
 ·simp only [go_sem, Nat.reduceEqDiff, reduceCtorEq, V]
  exact ⟨⟨_, rfl⟩, ⟨_, rfl⟩, ⟨_, rfl⟩, ⟨_, rfl⟩, _, _, rfl, Nat.zero_le _, rfl⟩
 rintro s ⟨kH, ⟨n2, k2⟩, ⟨n3, k3⟩, ⟨n4, k4⟩, ⟨n6, k6⟩, t, cl, k7, ht7, k8⟩
 have a61 := Ax (cW (H := H) (a := cl))
 simp only [go_sem, Nat.reduceEqDiff, reduceCtorEq, k2, k3, k4, k6, k7, k8, kH, a61, hw, V]
 cases q2 : A0 cl 0 5 <;> simp only [go_sem, Nat.reduceEqDiff, reduceCtorEq, Nat.reduceLeDiff, k2, k3, k4, k6, k7, k8, V]
 ·exact Nq.same q hi false
 refine Af ?_
 simp only [go_sem, Nat.reduceEqDiff, reduceCtorEq, Nat.reduceLeDiff, k2, k3, k4, k6, k7, k8, V]
 refine Aa (fun m' h => oC (x := (y.2.1, w.now, w.fresh)) (y := x.rs) (by omega) (by omega) m' h) rfl hw fun r1 H1 ⟨⟨tx, e1, hx⟩, e2⟩ => ?_
 subst e1
 have e2 : H1 = H := e2
 subst e2
 simp only [go_sem, Nat.reduceEqDiff, reduceCtorEq, k2, k3, k4, k6, k7, k8, V]
 refine Ap rfl (fun m' h hz _ => dO q hi (C8 hx (by decide)) h (MW.arg q hm hz)) rfl hw fun r1 H2 ⟨κ', w', f', b, e1, q', hi', fr, sb, hf, hlog⟩ => ?_
 subst e1
 have U := q'.vcs
 simp only [go_sem, Nat.reduceEqDiff, reduceCtorEq, Nat.reduceLeDiff, List.getElem?_toArray, Bd, k2, k3, k4, k6, k7, k8, V, U]
 refine ⟨by rfl, ?_⟩
 cases b <;> simp only [go_sem, Nat.reduceEqDiff, reduceCtorEq, Nat.reduceLeDiff, k2, k3, k4, k6, k7, k8, V, U]
 ·obtain ⟨_, _, _, e⟩ := hf rfl
  rw [e]
  exact Nq.same q hi false
 have fr : Fr κ κ' H1 H2 := fr
 have sb : G8 H1.length f f' := sb
 obtain ⟨i9, p9, o9, ho9, hp9, hid9, hia9, hst⟩ := (q'.a (by decide)).put g1 (by rw [hi'.wl]; omega)
 have hwr := (hm.sub hw sb) f'.a (by simp [Be]) i9 hid9
 obtain ⟨c1, c2⟩ := hst (true, w.fresh, y.2.2.2.1, cl) _ rfl rfl
 have Q9 := (Eo.keep q' c2 (by decide)).f3 c1
 simp only [go_sem, Nat.reduceEqDiff, reduceCtorEq, Nat.reduceLeDiff, k2, k3, k4, k6, k7, k8, V, U, hia9, ho9, hp9, hwr]
 exact ⟨κ', { w' with wts := w'.wts.set x.a.toNat (true, w.fresh, y.2.2.2.1, cl) }, { f' with a := f'.a }, true, rfl, Q9, ⟨by simp [hi'.wl], hi'.cl, hi'.net, hi'.tms, hi'.tl, hi'.crs, hi'.acs, hi'.bd⟩, fr.trans (c2.fr (.inl (by omega))), sb⟩
theorem G8.set1 {n : Nat} {r f f' : Rf} (s : G8 n r f) (v u : Value) (hu : u ∈ Be f) (hf : ∀ z ∈ Be f', z ∈ Be f ∨ z = v) (h : ∀ j ∈ Ae v, j ∈ Ae u ∨ n ≤ j) : G8 n r f' := s.trans (n' := n) (G8.one v hf ⟨u, hu, h⟩) (Nat.le_refl _)
theorem G8.e {n : Nat} {r f : Rf} (s : G8 n r f) (v : Value) (h : ∀ j ∈ Ae v, j ∈ Ae f.e ∨ n ≤ j) : G8 n r { f with e := v } := s.set1 v f.e (by simp [Be]) (fun u hu => by
 simp only [Be, List.mem_cons, List.not_mem_nil, or_false] at hu ⊢
 rcases hu with h | h | h | h | h | h | h | h <;> simp [h]) h
theorem G8.c {n : Nat} {r f : Rf} (s : G8 n r f) (v : Value) (h : ∀ j ∈ Ae v, j ∈ Ae f.c ∨ n ≤ j) : G8 n r { f with c := v } := s.set1 v f.c (by simp [Be]) (fun u hu => by
 simp only [Be, List.mem_cons, List.not_mem_nil, or_false] at hu ⊢
 rcases hu with h | h | h | h | h | h | h | h <;> simp [h]) h
theorem G8.h {n : Nat} {r f : Rf} (s : G8 n r f) (v : Value) (h : ∀ j ∈ Ae v, j ∈ Ae f.h ∨ n ≤ j) : G8 n r { f with h := v } := s.set1 v f.h (by simp [Be]) (fun u hu => by
 simp only [Be, List.mem_cons, List.not_mem_nil, or_false] at hu ⊢
 rcases hu with h | h | h | h | h | h | h | h <;> simp [h]) h
theorem G8.x {n : Nat} {r f : Rf} (s : G8 n r f) (v : Value) (h : ∀ j ∈ Ae v, j ∈ Ae f.x ∨ n ≤ j) : G8 n r { f with x := v } := s.set1 v f.x (by simp [Be]) (fun u hu => by
 simp only [Be, List.mem_cons, List.not_mem_nil, or_false] at hu ⊢
 rcases hu with h | h | h | h | h | h | h | h <;> simp [h]) h
theorem G8.d {n : Nat} {r f : Rf} (s : G8 n r f) (v : Value) (h : ∀ j ∈ Ae v, j ∈ Ae f.d ∨ n ≤ j) : G8 n r { f with d := v } := s.set1 v f.d (by simp [Be]) (fun u hu => by
 simp only [Be, List.mem_cons, List.not_mem_nil, or_false] at hu ⊢
 rcases hu with h | h | h | h | h | h | h | h <;> simp [h]) h
theorem Sl.strI {H : Hp} {v : Value} {l : List ByteArray} (h : Dz H v l) {n : Int} (h0 : 0 ≤ n) (h1 : n < l.length) : ∃ (x : ByteArray) (id p : Nat) (o : List Value), x ∈ l ∧ H[id]? = some o ∧ o[p]? = some (.string x) ∧
  ∀ (s : St) (x y : X), Av s.ρ x = some v → Av s.ρ y = some (.int .i64 n) → B4 s 1 x y = some (.val (.pointer (some ⟨id, p, some o.length⟩)), s) := by
 obtain ⟨k, rfl⟩ := Int.eq_ofNat_of_zero_le h0
 have hk : k < l.length := by omega
 obtain ⟨i0, q0, o0, h0, r0, a0⟩ := h.str (B7 hk)
 exact ⟨_, _, _, _, List.getElem_mem hk, h0, r0, a0⟩
theorem Abv {m : Md} {κ : Nat → Nat} {H : Hp} {w : Wd} {f : Rf} {x : Ac} (q : He κ H w f) (hi : Pe w) (ht : TH w x) (h4 : x.kd = 4) (hw : Wr m H) (hm : MW m f) : Ci EE m 179 [Mv w f, dX x] H fun r H' => Nq κ H f r H' := by
 refine Bt rfl rfl wN (by simp [hZ]) ?_
 have V := q.vcs
 obtain ⟨⟨g1, g2⟩, g3, g4⟩ := ht.k4 h4
 have qn := q.n (by decide)
 have qe := q.e (by decide)
 obtain ⟨tx, id, p, o, hy, ho, hr, hia⟩ := qn.1.strI g3 g4
 have z1 := hi.net tx hy
 simp only [go_sem, Nat.reduceEqDiff, reduceCtorEq, hZ, V]
 refine Af ?_
 simp only [go_sem, Nat.reduceEqDiff, reduceCtorEq, Nat.reduceLeDiff, V, hia, ho, hr]
 refine Aa (fun m' h => tW q.base.cf (by omega) m' h) rfl hw fun r1 H1 ⟨⟨c8, s8, e8, e1, z8⟩, e2⟩ => ?_
 subst e1
 have e2 : H1 = H := e2
 subst e2
 simp only [go_sem, Nat.reduceEqDiff, reduceCtorEq, V]
 refine ⟨by rfl, ?_⟩
 cases q1 : decide (c8 = 0) <;> simp only [go_sem, Nat.reduceEqDiff, reduceCtorEq, V, qe.1.len]
 ·exact Nq.same q hi false
 cases q2 : decide ((w.log.length : Int) ≥ 40) <;> simp only [go_sem, Nat.reduceEqDiff, reduceCtorEq, V]
 rotate_left
 ·exact Nq.same q hi false
 have q2 := Au q2
 refine Ap rfl (fun m' h hz _ => dO q hi (C8 z8 (by decide)) h (MW.arg q hm hz)) rfl hw fun r1 H2 ⟨κ', w', f', b, e1, q', hi', fr, sb, hf, hlog⟩ => ?_
 subst e1
 have U := q'.vcs
 simp only [go_sem, Nat.reduceEqDiff, reduceCtorEq, List.getElem?_toArray, Bd, V, U]
 cases b <;> simp only [go_sem, Nat.reduceEqDiff, reduceCtorEq, V, U]
 ·obtain ⟨_, _, _, e⟩ := hf rfl
  rw [e]
  exact Nq.same q hi false
 have fr : Fr κ κ' H1 H2 := fr
 have sb : G8 H1.length f f' := sb
 have hw2 : Wr m H2 := fun id hid => hw id (C8 fr.len hid)
 obtain ⟨e', H3, a1, a2, a3, a4⟩ := (q'.e (by decide)).app1 (m := m) (bytes := 88) (a := e8) (cs := Rt e8) hw2 ((hm.sub hw sb) f'.e (by simp [Be])) (fun _ => rfl) rfl rfl (by rw [hlog]; unfold Ev.room; omega) (by rw [hlog]; unfold Ev.room; omega)
 have Q9 := (Eo.keep q' a3 (by decide)).f6 a2
 have V9 := a2.1.vc
 rw [a1]
 rotate_left
 ·rfl
 ·rfl
 ·rfl
 simp only [go_sem, Nat.reduceEqDiff, Nat.reduceLeDiff, V, U, V9]
 exact ⟨_, { w' with log := w'.log ++ [e8] }, { f' with e := e' }, true, rfl, Q9, ⟨hi'.wl, hi'.cl, hi'.net, hi'.tms, hi'.tl, hi'.crs, hi'.acs, hi'.bd.1, hi'.bd.2.1, by simp [hlog]; omega, hi'.bd.2.2.2⟩, fr.trans (a3.fr (.inl (by omega))), sb.e e' fun j hj => by
  rcases a4 j hj with h | h
  ·exact .inl h
  ·exact .inr (C8 fr.len h)⟩
theorem tZ {m : Md} {κ : Nat → Nat} {H : Hp} {w : Wd} {f : Rf} {x : Ac} (q : He κ H w f) (hi : Pe w) (ht : TH w x) (h5 : x.kd = 5) (hw : Wr m H) (hm : MW m f) : Ci EE m 180 [Mv w f, dX x] H fun r H' => Nq κ H f r H' := by
 refine Bt rfl rfl Abe (by simp [gH]) ?_
 have V := q.vcs
 obtain ⟨⟨g1, g2⟩, g3, g4⟩ := ht.k5 h5
 have qn := q.n (by decide)
 have qa := q.a (by decide)
 have qc := q.c (by decide)
 obtain ⟨tx, id, p, o, hy, ho, hr, hia⟩ := qn.1.strI g3 g4
 have z1 := hi.net tx hy
 obtain ⟨k, hk⟩ := Int.eq_ofNat_of_zero_le g1
 have hkl : k < w.wts.length := by rw [hi.wl]; omega
 obtain ⟨id2, p2, o2, ho2, hr2, hp2, hia2⟩ := qa.1.elem (i := k) (B7 hkl)
 have hia' : ∀ (s : St) (y z : X), Av s.ρ y = some f.a → Av s.ρ z = some (.int .i64 x.a) → B4 s 4 y z = some (.val (.pointer (some ⟨id2, p2, some o2.length⟩)), s) := fun s y z hy hz => hia2 s y z hy (by rw [hz, hk])
 have hr2 : (o2.drop p2).take 4 = [.bool w.wts[k].1, .int .i64 w.wts[k].2.1, .int .i64 w.wts[k].2.2.1, .int .i64 w.wts[k].2.2.2] := hr2
 generalize w.wts[k] = y at hr2
 simp only [go_sem, Nat.reduceEqDiff, reduceCtorEq, gH, V, hia', ho2, hr2, hp2]
 refine Af ?_
 simp only [go_sem, Nat.reduceEqDiff, reduceCtorEq, V, hia, ho, hr]
 refine Aa (fun m' h => yK z1 m' h) rfl hw fun r1 H1 ⟨⟨cr, b, e1, z8, z9⟩, e2⟩ => ?_
 subst e1
 have e2 : H1 = H := e2
 subst e2
 simp only [go_sem, Nat.reduceEqDiff, reduceCtorEq, List.getElem?_toArray, Bd, V]
 refine ⟨by rfl, ?_⟩
 obtain ⟨y1, y2, y3, y4⟩ := y
 cases y1 <;> simp only [go_sem, Nat.reduceEqDiff, reduceCtorEq, V]
 ·exact Nq.same q hi false
 cases b <;> simp only [go_sem, Nat.reduceEqDiff, reduceCtorEq, V, qc.1.len]
 ·exact Nq.same q hi false
 cases q2 : decide ((w.crs.length : Int) ≥ 30) <;> simp only [go_sem, Nat.reduceEqDiff, reduceCtorEq, V]
 rotate_left
 ·exact Nq.same q hi false
 have q2 := Au q2
 obtain ⟨c', H3, a1, a2, a3, a4⟩ := qc.app1 (m := m) (bytes := 72) (a := cr) (cs := T5 cr) hw (hm f.c (by simp [Be])) (fun _ => rfl) rfl rfl (by unfold Ev.room; omega) (by unfold Ev.room; omega)
 have Q3 := (Eo.keep q a3 (by decide)).f4 a2
 have V9 := a2.1.vc
 rw [a1]
 rotate_left
 ·rfl
 ·rfl
 ·rfl
 have qa3 := Q3.a (by decide)
 obtain ⟨i9, p9, o9, ho9, hp9, hid9, hia9, hst⟩ := qa3.put g1 (by show x.a < (w.wts.length : Int); rw [hi.wl]; omega)
 have hwr := hm f.a (by simp [Be]) i9 hid9
 obtain ⟨c1, c2⟩ := hst (false, 0, 0, 0) _ rfl rfl
 have Q9 := (Eo.keep Q3 c2 (by decide)).f3 c1
 simp only [go_sem, Nat.reduceEqDiff, reduceCtorEq, Nat.reduceLeDiff, V, V9, hia9, ho9, hp9, hwr]
 exact ⟨_, { w with crs := w.crs ++ [cr], wts := w.wts.set x.a.toNat (false, 0, 0, 0) }, { f with c := c' }, true, rfl, Q9, ⟨by simp [hi.wl], hi.cl, hi.net, hi.tms, hi.tl, fun z hz => by
  rcases Lh hz with h | h
  ·exact hi.crs z h
  ·rw [bJ h]; exact ⟨z8, z9⟩, hi.acs, hi.bd.1, by simp; omega, hi.bd.2.2⟩, (a3.fr (.inl (by omega))).trans (c2.fr (.inl (by omega))), (G8.refl _ _).c c' a4⟩
theorem Sl.fresh {α : Type} {enc : α → List Value} {esz : Nat} {m : Md} {H : Hp} {v : Value} {l : List α} (bytes : Nat) (h : Sl (En enc) esz H v l) (he : ∀ a, (enc a).all scal = true) (h0 : 0 < esz) (hw : Wr m H) (hb : l.length * bytes ≤ Ev.room) (hb2 : l.length ≤ Ev.room) :
  ∃ v' H', (∀ (s : St) (x y : X), s.H = H ++ [[]] → Av s.ρ x = some (.slice (some ⟨H.length, 0, some esz⟩) 0 (0 * esz)) → ex s.ρ y = .val v → Ce m s esz bytes x y = some (.val v', { s with H := H' })) ∧ Sl (En enc) esz H' v' l ∧ Ao H.length v' ∧ H <+: H' := by
 have p0 : H <+: H ++ [[]] := Eg
 have s0 : Sl (En enc) esz (H ++ [[]]) (.slice (some ⟨H.length, 0, some esz⟩) 0 (0 * esz)) [] := .inr ⟨H.length, 0, 0, [], by simp, by simp, by simp, by simp, by simp, fun i a hi => by simp at hi⟩
 obtain ⟨tv, H1, a1, a2, a3, a4, a5, a6, a7⟩ := s0.join (m := m) (N := H.length) (bytes := bytes) (h.pre p0) he h0 (.inr ⟨_, _, _, _, rfl, Nat.le_refl _⟩) p0.length_le hw (by simpa using hb) (by simpa using hb2)
 exact ⟨tv, H1, a1, by simpa using a2, a3, a7 H (Nat.le_refl _) p0⟩
def CcR (H : Hp) (c : Ic) (r : Value) (H' : Hp) : Prop := ∃ u s l p, r = T3 c u s l p ∧ H <+: H' ∧ K5 H' c u s l p ∧ Ao H.length u ∧ Ao H.length s ∧ Ao H.length l ∧ Ao H.length p
theorem Aah {m : Md} {H : Hp} {c : Ic} {u s l p : Value} (hc : K5 H c u s l p) (h1 : c.ur.length ≤ 1000) (h2 : c.sr.length ≤ 1000) (h3 : c.lk.length ≤ 1000) (h4 : c.px.length ≤ 1000) (hw : Wr m H) : Ci EE m 163 [T3 c u s l p] H fun r H' => CcR H c r H' := by
 refine Bt rfl rfl uI (by simp [kV]) ?_
 obtain ⟨v1, v2, v3, v4⟩ := hc.vcs
 obtain ⟨u', H1, a1, a2, a3, a4⟩ := Sl.fresh (m := m) 8 hc.ur (fun _ => rfl) (by omega) hw (by unfold Ev.room; omega) (by unfold Ev.room; omega)
 obtain ⟨s', H2, b1, b2, b3, b4⟩ := Sl.fresh (m := m) 8 (hc.sr.pre a4) (fun _ => rfl) (by omega) (hw.pre a4) (by unfold Ev.room; omega) (by unfold Ev.room; omega)
 obtain ⟨l', H3, d1, d2, d3, d4⟩ := Sl.fresh (m := m) 16 ((hc.lk.pre a4).pre b4) (fun _ => rfl) (by omega) ((hw.pre a4).pre b4) (by unfold Ev.room; omega) (by unfold Ev.room; omega)
 obtain ⟨p', H4, e1, e2, e3, e4⟩ := Sl.fresh (m := m) 16 (((hc.px.pre a4).pre b4).pre d4) (fun _ => rfl) (by omega) (((hw.pre a4).pre b4).pre d4) (by unfold Ev.room; omega) (by unfold Ev.room; omega)
 have V1 := a2.vc
 have V2 := b2.vc
 have V3 := d2.vc
 have V4 := e2.vc
 simp only [go_sem, ↓reduceIte, Nat.reduceEqDiff, reduceCtorEq, Nat.reduceAdd, Nat.reduceLeDiff, Nat.reduceMul, kV, v1, v2, v3, v4]
 refine Af ?_
 simp only [go_sem, ↓reduceIte, Nat.reduceEqDiff, reduceCtorEq, Nat.reduceAdd, Nat.reduceLeDiff, Nat.reduceMul, v1, v2, v3, v4, Kj, E7, Ba]
 rw [a1]
 rotate_left
 ·rfl
 ·rfl
 ·rfl
 simp only [go_sem, ↓reduceIte, Nat.reduceEqDiff, reduceCtorEq, Nat.reduceAdd, Nat.reduceLeDiff, Nat.reduceMul, v1, v2, v3, v4, V1, Kj, E7, Ba]
 rw [b1]
 rotate_left
 ·rfl
 ·rfl
 ·rfl
 simp only [go_sem, ↓reduceIte, Nat.reduceEqDiff, reduceCtorEq, Nat.reduceAdd, Nat.reduceLeDiff, Nat.reduceMul, v1, v2, v3, v4, V1, V2, Kj, E7, Ba]
 rw [d1]
 rotate_left
 ·rfl
 ·rfl
 ·rfl
 simp only [go_sem, ↓reduceIte, Nat.reduceEqDiff, reduceCtorEq, Nat.reduceAdd, Nat.reduceLeDiff, Nat.reduceMul, v1, v2, v3, v4, V1, V2, V3, Kj, E7, Ba]
 rw [e1]
 rotate_left
 ·rfl
 ·rfl
 ·rfl
 simp only [go_sem, ↓reduceIte, Nat.reduceEqDiff, reduceCtorEq, Nat.reduceAdd, Nat.reduceLeDiff, Nat.reduceMul, v1, v2, v3, v4, V1, V2, V3, V4]
 refine ⟨by rfl, ?_⟩
 have n1 := a4.length_le
 have n2 := b4.length_le
 have n3 := d4.length_le
 exact ⟨u', s', l', p', rfl, ((a4.trans b4).trans d4).trans e4, ⟨((a2.pre b4).pre d4).pre e4, (b2.pre d4).pre e4, d2.pre e4, e2⟩, a3, b3.mono (by omega), d3.mono (by omega), e3.mono (by omega)⟩
theorem C9.new {α : Type} {κ : Nat → Nat} {H H' : Hp} {R : α → List Value → Prop} {esz : Nat} {v : Value} {l : List α} (h : Sl R esz H' v l) (ho : Ao H.length v) : C9 (Cm κ H.length 0) 0 R esz H' v l := ⟨h, fun id hid => Gp (Bc ho id hid), ho.mono (Nat.zero_le _)⟩
theorem Aa3 {m : Md} {κ : Nat → Nat} {H : Hp} {w : Wd} {f : Rf} {x : Ac} (q : He κ H w f) (hi : Pe w) (ht : TH w x) (h7 : x.kd = 7) (hw : Wr m H) (hm : MW m f) (hnr : m.nr = false) : Ci EE m 182 [Mv w f, dX x] H fun r H' => Nq κ H f r H' := by
 refine Bt rfl rfl yW (by simp [nG]) ?_
 have V := q.vcs
 obtain ⟨⟨g1, g2⟩, g3, g4⟩ := ht.k7 h7
 have qn := q.n (by decide)
 have qh := q.h (by decide)
 have qx := q.x (by decide)
 have qd := q.d (by decide)
 obtain ⟨tx, id, p, o, hy, ho, hr, hia⟩ := qn.1.strI g3 g4
 have z1 := hi.net tx hy
 obtain ⟨k, hk⟩ := Int.eq_ofNat_of_zero_le g1
 have hkl : k < w.chs.length := by rw [hi.cl]; omega
 obtain ⟨id2, p2, o2, ho2, hr2, hp2, hia2⟩ := qh.1.elem (i := k) (B7 hkl)
 have hia' : ∀ (s : St) (y z : X), Av s.ρ y = some f.h → Av s.ρ z = some (.int .i64 x.a) → B4 s 2 y z = some (.val (.pointer (some ⟨id2, p2, some o2.length⟩)), s) := fun s y z hy hz => hia2 s y z hy (by rw [hz, hk])
 obtain ⟨rv, hr2, hrc⟩ := hr2
 have V0 := hrc.1.vc
 simp only [go_sem, ↓reduceIte, Nat.reduceEqDiff, reduceCtorEq, Nat.reduceAdd, Nat.reduceLeDiff, Nat.reduceMul, nG, V]
 refine Af ?_
 simp only [go_sem, ↓reduceIte, Nat.reduceEqDiff, reduceCtorEq, Nat.reduceAdd, Nat.reduceLeDiff, Nat.reduceMul, V, V0, hia, ho, hr, hia', ho2, hr2, hp2]
 refine Aa (fun m' h => Aau (q := w.chs[k].1) q.base.cf hrc.1 z1 h) rfl hw fun r1 H1 ⟨q', v', l', A, pA, vA, n, e1, pp, s1, o1, s2, o2', s3, o3, zA⟩ => ?_
 subst e1
 have pp : H <+: H1 := pp
 have s1 := C9.new (κ := κ) s1 (show Ao H.length v' from o1)
 have s2 := C9.new (κ := κ) s2 (show Ao H.length pA from o2')
 have s3 := C9.new (κ := κ) s3 (show Ao H.length vA from o3)
 have U1 := s1.1.vc
 have U2 := s2.1.vc
 have U3 := s3.1.vc
 have kp := Kh.pre (κ := κ) pp 0
 have Q1 : He _ H1 w f := Eo.keep q kp (by decide)
 have same : Nq κ H f (.tuple #[Mv w f, .bool false]) H1 := ⟨_, w, f, false, rfl, Q1, hi, Fr.pre pp 0, G8.refl _ _⟩
 have hw1 := hw.pre pp
 simp only [go_sem, ↓reduceIte, Nat.reduceEqDiff, reduceCtorEq, Nat.reduceAdd, Nat.reduceLeDiff, Nat.reduceMul, List.getElem?_nil, List.getElem?_toArray, Bd, V, U1, U2, U3]
 refine ⟨by rfl, ?_⟩
 cases q1 : decide (n = 0) <;> simp only [go_sem, ↓reduceIte, Nat.reduceEqDiff, reduceCtorEq, Nat.reduceAdd, Nat.reduceLeDiff, Nat.reduceMul, V, U1, U2, U3, qx.1.len]
 ·exact same
 cases q2 : decide ((w.acs.length : Int) ≥ 40) <;> simp only [go_sem, ↓reduceIte, Nat.reduceEqDiff, reduceCtorEq, Nat.reduceAdd, Nat.reduceLeDiff, Nat.reduceMul, V, U1, U2, U3, qd.1.len]
 rotate_left
 ·exact same
 have q2 := Au q2
 obtain ⟨i9, p9, o9, ho9, hp9, hid9, hia9, hst⟩ := (Q1.h (by decide)).put g1 (by rw [hi.cl]; omega)
 have hwr := hm f.h (by simp [Be]) i9 hid9
 obtain ⟨c1, c2⟩ := hst (q', l') [.int .i64 q', v'] rfl ⟨v', rfl, s1⟩
 have Q2 := (Eo.keep Q1 c2 (by decide)).f5 (c1.mono fun _ _ h => h.keep c2 (by decide))
 have wr2 := fun id hid => hw1 id (C8 c2.len hid)
 obtain ⟨x', H3, a1, a2, a3, a4⟩ := (Q2.x (by decide)).app1 (m := m) (bytes := 160) (a := { A with lk := w.lks.length }) (cs := [.int .i64 A.sv, .int .i64 A.cl, .int .i64 A.ky, .int .i64 A.op, .int .i64 A.nw, .int .i64 A.au.1, .int .i64 A.au.2.1, .int .i64 A.au.2.2, .int .i64 A.rs.1, .int .i64 A.rs.2.1, .int .i64 A.rs.2.2, pA, vA, .int .i64 w.lks.length, .string A.tk]) wr2 (hm f.x (by simp [Be])) (fun h => by rw [hnr] at h; cases h) rfl ⟨pA, vA, rfl, s2.keep c2 (by decide) fun _ _ h => h, s3.keep c2 (by decide) fun _ _ h => h⟩ (by unfold Ev.room; show (w.acs.length + 1) * _ ≤ _; omega) (by unfold Ev.room; show w.acs.length + 1 ≤ _; omega)
 simp only [go_sem, ↓reduceIte, Nat.reduceEqDiff, reduceCtorEq, Nat.reduceAdd, Nat.reduceLeDiff, Nat.reduceMul, V, U1, U2, U3, hia9, ho9, hp9, hwr, hnr, Bool.false_eq_true, false_implies]
 rw [a1]
 rotate_left
 ·rfl
 ·rfl
 ·rfl
 have Q3 := (Eo.keep Q2 a3 (by decide)).f7 (a2.mono fun _ _ h => h.keep a3 (by decide))
 have V9 := a2.1.vc
 simp only [go_sem, ↓reduceIte, Nat.reduceEqDiff, reduceCtorEq, Nat.reduceAdd, Nat.reduceLeDiff, Nat.reduceMul, V, V9]
 exact ⟨_, { w with chs := w.chs.set x.a.toNat (q', l'), acs := w.acs ++ [{ A with lk := w.lks.length }] }, { f with x := x' }, true, rfl, Q3, ⟨hi.wl, by simp [hi.cl], hi.net, hi.tms, hi.tl, hi.crs, fun z hz => by
  rcases Lh hz with h | h
  ·exact hi.acs z h
  ·rw [bJ h]; exact zA, hi.bd.1, hi.bd.2.1, hi.bd.2.2.1, by simp; omega, hi.bd.2.2.2.2⟩, ((Fr.pre pp 0).trans (c2.fr (.inl (by omega)))).trans (a3.fr (.inl (by omega))), (G8.refl _ _).x x' fun j hj => by
  rcases a4 j hj with h | h
  ·exact .inl h
  ·exact .inr (C8 (C8 pp.length_le c2.len) h)⟩
theorem Nq.of {κ : Nat → Nat} {H H' : Hp} {w : Wd} {f : Rf} {r : Value} (h : pG κ H w f r H') : Nq κ H f r H' := let ⟨a, b, c, d, e, f, g, h, i, _⟩ := h; ⟨a, b, c, d, e, f, g, h, i⟩
def Ye (κ : Nat → Nat) (n : Nat) (v : Value) (c : Nat) : Nat → Nat := fun j => if j < n then κ j else if j ∈ Ae v then c else 0
theorem Z2 {κ : Nat → Nat} {H H' : Hp} {v : Value} {c : Nat} (p : H <+: H') (d : Nat) : Kh κ (Ye κ H.length v c) H H' d := ⟨p.length_le, fun _ h => if_pos h, fun j hj _ => Ed p hj⟩
theorem bO {κ : Nat → Nat} {n : Nat} {v : Value} {c : Nat} (ho : Ao n v) : KC (Ye κ n v c) c v := fun id hid => by
 have := Bc ho id hid
 unfold Ye
 rw [if_neg (by omega), if_pos hid]
theorem Z6 {κ : Nat → Nat} {n : Nat} {v u : Value} {c : Nat} (ho : Ao n u) (hd : ∀ j ∈ Ae v, j ∉ Ae u) : KC (Ye κ n v c) 0 u := fun id hid => by
 have := Bc ho id hid
 unfold Ye
 rw [if_neg (by omega), if_neg fun h => hd id h hid]
theorem yA {m : Md} {κ : Nat → Nat} {H : Hp} {w : Wd} {f : Rf} {x : Ac} (q : He κ H w f) (hi : Pe w) (ht : TH w x) (hk1 : 1 ≤ x.kd) (hk2 : x.kd ≤ 10) (hx9 : x.tx.size ≤ 1000) (hw : Wr m H) (hm : MW m f) (hnr : m.nr = false) : Ci EE m 166 [Mv w f, dX x] H fun r H' => Nq κ H f r H' := by
 refine Bt rfl rfl rZ (by simp [mX]) ?_
 have V := q.vcs
 simp only [go_sem, ↓reduceIte, Nat.reduceEqDiff, reduceCtorEq, Nat.reduceAdd, Nat.reduceLeDiff, Nat.reduceMul, mX, V]
 cases k1 : decide (x.kd = 1) <;> simp only [go_sem, ↓reduceIte, Nat.reduceEqDiff, reduceCtorEq, Nat.reduceAdd, Nat.reduceLeDiff, Nat.reduceMul, V]
 rotate_left
 ·cases q1 : decide (w.now ≥ 100000) <;> simp only [go_sem, ↓reduceIte, Nat.reduceEqDiff, reduceCtorEq, Nat.reduceAdd, Nat.reduceLeDiff, Nat.reduceMul, V]
  ·exact ⟨κ, { w with now := IntKind.i64.wrap (w.now + 1), fresh := w.fresh }, f, true, rfl, q.num _ _, hi.num _ _, Fr.refl _ _, G8.refl _ _⟩
  ·exact Nq.same q hi false
 have k1 := Au k1
 cases k2 : decide (x.kd = 2) <;> simp only [go_sem, ↓reduceIte, Nat.reduceEqDiff, reduceCtorEq, Nat.reduceAdd, Nat.reduceLeDiff, Nat.reduceMul, V]
 rotate_left
 ·have k2 := As k2
  obtain ⟨g1, g2⟩ := ht.k2 k2
  refine Af ?_
  simp only [go_sem, ↓reduceIte, Nat.reduceEqDiff, reduceCtorEq, Nat.reduceAdd, Nat.reduceLeDiff, Nat.reduceMul, V]
  refine Aa (fun m' h => qE m' h) rfl hw fun r1 H1 ⟨⟨t, e1, ht9⟩, e2⟩ => ?_
  subst e1
  have e2 : H1 = H := e2
  subst e2
  simp only [go_sem, ↓reduceIte, Nat.reduceEqDiff, reduceCtorEq, Nat.reduceAdd, Nat.reduceLeDiff, Nat.reduceMul, V]
  refine Ap rfl (fun m' h hz _ => dO q hi (C8 ht9 (by decide)) h (MW.arg q hm hz)) rfl hw fun r1 H2 ⟨κ', w', f', b, e1, q', hi', fr, sb, hf, hlog⟩ => ?_
  subst e1
  have U := q'.vcs
  simp only [go_sem, ↓reduceIte, Nat.reduceEqDiff, reduceCtorEq, Nat.reduceAdd, Nat.reduceLeDiff, Nat.reduceMul, List.getElem?_toArray, Bd, V, U]
  refine ⟨by rfl, ?_⟩
  have fr : Fr κ κ' H1 H2 := fr
  have sb : G8 H1.length f f' := sb
  have hw2 : Wr m H2 := fun id hid => hw id (C8 fr.len hid)
  cases b <;> simp only [go_sem, ↓reduceIte, Nat.reduceEqDiff, reduceCtorEq, Nat.reduceAdd, Nat.reduceLeDiff, Nat.reduceMul, V, U]
  ·exact ⟨κ', w', f', false, rfl, q', hi', fr, sb⟩
  refine Af ?_
  simp only [go_sem, ↓reduceIte, Nat.reduceEqDiff, reduceCtorEq, Nat.reduceAdd, Nat.reduceLeDiff, Nat.reduceMul, V, U]
  refine Aa (fun m' h => Ra (a := x.a) m' h) rfl hw2 fun r1 H3 ⟨⟨n9, e1⟩, e2⟩ => ?_
  subst e1
  have e2 : H3 = H2 := e2
  subst e2
  obtain ⟨i9, p9, o9, ho9, hp9, hid9, hia9, hst⟩ := (q'.a (by decide)).put g1 (by rw [hi'.wl]; omega)
  have hwr := (hm.sub hw sb) f'.a (by simp [Be]) i9 hid9
  obtain ⟨c1, c2⟩ := hst (true, w.fresh, n9, x.a) _ rfl rfl
  have Q9 := (Eo.keep q' c2 (by decide)).f3 c1
  simp only [go_sem, ↓reduceIte, Nat.reduceEqDiff, reduceCtorEq, Nat.reduceAdd, Nat.reduceLeDiff, Nat.reduceMul, V, U, hia9, ho9, hp9, hwr]
  refine ⟨by rfl, ?_⟩
  exact ⟨κ', { w' with wts := w'.wts.set x.a.toNat (true, w.fresh, n9, x.a) }, { f' with a := f'.a }, true, rfl, Q9, ⟨by simp [hi'.wl], hi'.cl, hi'.net, hi'.tms, hi'.tl, hi'.crs, hi'.acs, hi'.bd⟩, fr.trans (c2.fr (.inl (by omega))), sb⟩
 have k2 := Au k2
 cases k3 : decide (x.kd = 3) <;> simp only [go_sem, ↓reduceIte, Nat.reduceEqDiff, reduceCtorEq, Nat.reduceAdd, Nat.reduceLeDiff, Nat.reduceMul, V]
 rotate_left
 ·have k3 := As k3
  refine Ap rfl (fun m' h hz hn => sV q hi ht k3 h (MW.arg q hm hz)) rfl hw fun r1 H1 ⟨κ', w', f', b, e1, q', hi', fr, sb⟩ => ?_
  subst e1
  have U := q'.vcs
  simp only [go_sem, ↓reduceIte, Nat.reduceEqDiff, reduceCtorEq, Nat.reduceAdd, Nat.reduceLeDiff, Nat.reduceMul, List.getElem?_toArray, Bd, V, U]
  exact ⟨κ', w', f', b, rfl, q', hi', fr, sb⟩
 have k3 := Au k3
 cases k4 : decide (x.kd = 4) <;> simp only [go_sem, ↓reduceIte, Nat.reduceEqDiff, reduceCtorEq, Nat.reduceAdd, Nat.reduceLeDiff, Nat.reduceMul, V]
 rotate_left
 ·have k4 := As k4
  refine Ap rfl (fun m' h hz hn => Abv q hi ht k4 h (MW.arg q hm hz)) rfl hw fun r1 H1 ⟨κ', w', f', b, e1, q', hi', fr, sb⟩ => ?_
  subst e1
  have U := q'.vcs
  simp only [go_sem, ↓reduceIte, Nat.reduceEqDiff, reduceCtorEq, Nat.reduceAdd, Nat.reduceLeDiff, Nat.reduceMul, List.getElem?_toArray, Bd, V, U]
  exact ⟨κ', w', f', b, rfl, q', hi', fr, sb⟩
 have k4 := Au k4
 cases k5 : decide (x.kd = 5) <;> simp only [go_sem, ↓reduceIte, Nat.reduceEqDiff, reduceCtorEq, Nat.reduceAdd, Nat.reduceLeDiff, Nat.reduceMul, V]
 rotate_left
 ·have k5 := As k5
  refine Ap rfl (fun m' h hz hn => tZ q hi ht k5 h (MW.arg q hm hz)) rfl hw fun r1 H1 ⟨κ', w', f', b, e1, q', hi', fr, sb⟩ => ?_
  subst e1
  have U := q'.vcs
  simp only [go_sem, ↓reduceIte, Nat.reduceEqDiff, reduceCtorEq, Nat.reduceAdd, Nat.reduceLeDiff, Nat.reduceMul, List.getElem?_toArray, Bd, V, U]
  exact ⟨κ', w', f', b, rfl, q', hi', fr, sb⟩
 have k5 := Au k5
 cases k6 : decide (x.kd = 6) <;> simp only [go_sem, ↓reduceIte, Nat.reduceEqDiff, reduceCtorEq, Nat.reduceAdd, Nat.reduceLeDiff, Nat.reduceMul, V]
 rotate_left
 ·have k6 := As k6
  obtain ⟨⟨g1, g2⟩, g3, g4⟩ := ht.k6 k6
  obtain ⟨y, id, p, o, hy, ho, hr, hp, hia⟩ := Cr.cells (q.c (by decide)).1 g3 g4
  obtain ⟨z1, z2⟩ := hi.crs y hy
  simp only [go_sem, ↓reduceIte, Nat.reduceEqDiff, reduceCtorEq, Nat.reduceAdd, Nat.reduceLeDiff, Nat.reduceMul, V, hia, ho, hr, hp]
  cases q1 : decide (y.2.2.1 ≥ 10) <;> simp only [go_sem, ↓reduceIte, Nat.reduceEqDiff, reduceCtorEq, Nat.reduceAdd, Nat.reduceLeDiff, Nat.reduceMul, V]
  rotate_left
  ·exact Nq.same q hi false
  refine Af ?_
  simp only [go_sem, ↓reduceIte, Nat.reduceEqDiff, reduceCtorEq, Nat.reduceAdd, Nat.reduceLeDiff, Nat.reduceMul, V]
  refine Aa (fun m' h => Abq (x := y) (y := (y.2.1, w.now, w.fresh)) (a := x.c) (by omega) m' h) rfl hw fun r1 H1 ⟨⟨tx, e1, hx⟩, e2⟩ => ?_
  subst e1
  have e2 : H1 = H := e2
  subst e2
  simp only [go_sem, ↓reduceIte, Nat.reduceEqDiff, reduceCtorEq, Nat.reduceAdd, Nat.reduceLeDiff, Nat.reduceMul, V]
  refine Ap rfl (fun m' h hz _ => dO q hi (C8 hx (by decide)) h (MW.arg q hm hz)) rfl hw fun r1 H2 ⟨κ', w', f', b, e1, q', hi', fr, sb, hf, hlog⟩ => ?_
  subst e1
  have U := q'.vcs
  simp only [go_sem, ↓reduceIte, Nat.reduceEqDiff, reduceCtorEq, Nat.reduceAdd, Nat.reduceLeDiff, Nat.reduceMul, List.getElem?_toArray, Bd, V, U]
  refine ⟨by rfl, ?_⟩
  exact ⟨κ', w', f', b, rfl, q', hi', fr, sb⟩
 have k6 := Au k6
 cases k7 : decide (x.kd = 7) <;> simp only [go_sem, ↓reduceIte, Nat.reduceEqDiff, reduceCtorEq, Nat.reduceAdd, Nat.reduceLeDiff, Nat.reduceMul, V]
 rotate_left
 ·have k7 := As k7
  refine Ap rfl (fun m' h hz hn => Aa3 q hi ht k7 h (MW.arg q hm hz) (hn.trans hnr)) rfl hw fun r1 H1 ⟨κ', w', f', b, e1, q', hi', fr, sb⟩ => ?_
  subst e1
  have U := q'.vcs
  simp only [go_sem, ↓reduceIte, Nat.reduceEqDiff, reduceCtorEq, Nat.reduceAdd, Nat.reduceLeDiff, Nat.reduceMul, List.getElem?_toArray, Bd, V, U]
  exact ⟨κ', w', f', b, rfl, q', hi', fr, sb⟩
 have k7 := Au k7
 cases k8 : decide (x.kd = 8) <;> simp only [go_sem, ↓reduceIte, Nat.reduceEqDiff, reduceCtorEq, Nat.reduceAdd, Nat.reduceLeDiff, Nat.reduceMul, V]
 rotate_left
 ·have k8 := As k8
  have qd := q.d (by decide)
  have a183 := Ax (Yf (a := x.a) qd.1)
  simp only [go_sem, ↓reduceIte, Nat.reduceEqDiff, reduceCtorEq, Nat.reduceAdd, Nat.reduceLeDiff, Nat.reduceMul, V, a183, hw]
  cases q1 : decide (x.a ∈ w.lks) <;> simp only [go_sem, ↓reduceIte, Nat.reduceEqDiff, reduceCtorEq, Nat.reduceAdd, Nat.reduceLeDiff, Nat.reduceMul, V, qd.1.len]
  rotate_left
  ·exact Nq.same q hi false
  cases q2 : decide ((w.lks.length : Int) ≥ 40) <;> simp only [go_sem, ↓reduceIte, Nat.reduceEqDiff, reduceCtorEq, Nat.reduceAdd, Nat.reduceLeDiff, Nat.reduceMul, V]
  rotate_left
  ·exact Nq.same q hi false
  have q2 := Au q2
  obtain ⟨d', H1, a1, a2, a3, a4⟩ := qd.app1 (m := m) (bytes := 8) (a := x.a) (cs := [.int .i64 x.a]) hw (hm f.d (by simp [Be])) (fun _ => rfl) rfl rfl (by unfold Ev.room; omega) (by unfold Ev.room; omega)
  rw [a1]
  rotate_left
  ·rfl
  ·rfl
  ·rfl
  have Q1 := (Eo.keep q a3 (by decide)).f8 a2
  have V1 := a2.1.vc
  have T1 := Q1.t (by decide)
  have K1 := Q1.k (by decide)
  have hw1 : Wr m H1 := fun id hid => hw id (C8 a3.len hid)
  simp only [go_sem, ↓reduceIte, Nat.reduceEqDiff, reduceCtorEq, Nat.reduceAdd, Nat.reduceLeDiff, Nat.reduceMul, V, V1]
  refine Aa (fun m' h => Aax (n := x.a) T1.1 K1.1 (fun z hz => C8 (hi.tms z hz) (by decide)) h) rfl hw1 fun r2 H2 ⟨tv, kv, T', K', e1, p1, s1, s2, o1, o2, hd, hT⟩ => ?_
  subst e1
  have p1 : H1 <+: H2 := p1
  have o1 : Ao H1.length tv := o1
  have o2 : Ao H1.length kv := o2
  have k9 := Z2 (κ := Cm κ H.length 8) (v := tv) (c := 2) p1 2
  have Q2 := (Eo.keep Q1 k9 (by decide)).f2 ⟨s1, bO o1, o1.mono (Nat.zero_le _)⟩ ⟨s2, Z6 o2 hd, o2.mono (Nat.zero_le _)⟩
  have V2 := s1.vc
  have V3 := s2.vc
  simp only [go_sem, ↓reduceIte, Nat.reduceEqDiff, reduceCtorEq, Nat.reduceAdd, Nat.reduceLeDiff, Nat.reduceMul, V, V1, V2, V3]
  refine ⟨_, _, _, true, rfl, Q2, ⟨hi.wl, hi.cl, hi.net, fun z hz => ?_, ?_, hi.crs, hi.acs, hi.bd.1, hi.bd.2.1, hi.bd.2.2.1, hi.bd.2.2.2.1, by simp; omega⟩, (a3.fr (.inl (by omega))).trans (k9.fr (.inl (by omega))), ?_⟩
  ·rcases hT with rfl | rfl
   ·exact hi.tms z hz
   ·cases hz
  ·rcases hT with rfl | rfl
   ·exact hi.tl
   ·exact Nat.zero_le _
  ·intro v hv id hid
   simp only [Be, List.mem_cons, List.not_mem_nil, or_false] at hv
   have n1 := a3.len
   rcases hv with rfl | rfl | rfl | rfl | rfl | rfl | rfl | rfl
   ·exact .inr ⟨f.n, by simp [Be], hid⟩
   ·exact .inl (C8 n1 (Bc o1 id hid))
   ·exact .inr ⟨f.a, by simp [Be], hid⟩
   ·exact .inr ⟨f.c, by simp [Be], hid⟩
   ·exact .inr ⟨f.h, by simp [Be], hid⟩
   ·exact .inr ⟨f.e, by simp [Be], hid⟩
   ·exact .inr ⟨f.x, by simp [Be], hid⟩
   ·rcases a4 id hid with h | h
    ·exact .inr ⟨f.d, by simp [Be], h⟩
    ·exact .inl h
 have k8 := Au k8
 cases k9 : decide (x.kd = 9) <;> simp only [go_sem, ↓reduceIte, Nat.reduceEqDiff, reduceCtorEq, Nat.reduceAdd, Nat.reduceLeDiff, Nat.reduceMul, V]
 rotate_left
 ·have T1 := q.t (by decide)
  have K1 := q.k (by decide)
  refine Aa (fun m' h => Aby (t := x.tx) T1.1 K1.1 (fun z hz => C8 (hi.tms z hz) (by decide)) (by omega) m' h) rfl hw fun r1 H1 ⟨⟨b, e1⟩, e2⟩ => ?_
  subst e1
  have e2 : H1 = H := e2
  subst e2
  cases b <;> simp only [go_sem, ↓reduceIte, Nat.reduceEqDiff, reduceCtorEq, Nat.reduceAdd, Nat.reduceLeDiff, Nat.reduceMul, V]
  ·exact Nq.same q hi false
  refine Ap rfl (fun m' h hz _ => nY q hi hx9 h (MW.arg q hm hz)) rfl hw fun r1 H2 ⟨κ', w', f', b, e1, q', hi', fr, sb, hf, hlog⟩ => ?_
  subst e1
  have U := q'.vcs
  simp only [go_sem, ↓reduceIte, Nat.reduceEqDiff, reduceCtorEq, Nat.reduceAdd, Nat.reduceLeDiff, Nat.reduceMul, List.getElem?_toArray, Bd, V, U]
  exact ⟨κ', w', f', b, rfl, q', hi', fr, sb⟩
 have k9 := Au k9
 obtain ⟨g1, g2⟩ := ht.k10 (by omega)
 refine Af ?_
 simp only [go_sem, ↓reduceIte, Nat.reduceEqDiff, reduceCtorEq, Nat.reduceAdd, Nat.reduceLeDiff, Nat.reduceMul, V]
 refine Aa (fun m' h => Aan h) rfl hw fun r1 H1 ⟨⟨q9, e1⟩, e2⟩ => ?_
 subst e1
 have e2 : H1 = H := e2
 subst e2
 obtain ⟨i9, p9, o9, ho9, hp9, hid9, hia9, hst⟩ := (q.h (by decide)).put g1 (by rw [hi.cl]; omega)
 have hwr := hm f.h (by simp [Be]) i9 hid9
 obtain ⟨c1, c2⟩ := hst (q9, []) [.int .i64 q9, .slice none 0 0] rfl ⟨_, rfl, Bl, fun id hid => by simp [Ae] at hid, .inl rfl⟩
 have Q9 := (Eo.keep q c2 (by decide)).f5 (c1.mono fun _ _ h => h.keep c2 (by decide))
 simp only [go_sem, ↓reduceIte, Nat.reduceEqDiff, reduceCtorEq, Nat.reduceAdd, Nat.reduceLeDiff, Nat.reduceMul, V, hia9, ho9, hp9, hwr, hnr]
 refine ⟨by rfl, ?_⟩
 exact ⟨κ, { w with chs := w.chs.set x.a.toNat (q9, []) }, { f with h := f.h }, true, rfl, Q9, ⟨hi.wl, by simp [hi.cl], hi.net, hi.tms, hi.tl, hi.crs, hi.acs, hi.bd⟩, c2.fr (.inl (by omega)), G8.refl _ _⟩
def qV (κ : Nat → Nat) (H : Hp) (f : Rf) (r : Value) (H' : Hp) : Prop := ∃ (κ' : Nat → Nat) (w' : Wd) (f' : Rf) (k : Int), r = .tuple #[Mv w' f', .int .i64 k] ∧ He κ' H' w' f' ∧ Pe w' ∧ Fr κ κ' H H' ∧ G8 H.length f f'
theorem eK {m : Md} {κ : Nat → Nat} {H : Hp} {w : Wd} {f : Rf} {x : Ac} (q : He κ H w f) (hi : Pe w) (hx9 : x.tx.size ≤ 1000) (hw : Wr m H) (hm : MW m f) (hnr : m.nr = false) : Ci EE m 146 [Mv w f, dX x] H fun r H' => qV κ H f r H' := by
 refine Bt rfl rfl vB (by simp [iX]) ?_
 have V := q.vcs
 have same : ∀ k : Int, qV κ H f (.tuple #[Mv w f, .int .i64 k]) H := fun k => ⟨κ, w, f, k, rfl, q, hi, Fr.refl _ _, G8.refl _ _⟩
 simp only [go_sem, ↓reduceIte, Nat.reduceEqDiff, reduceCtorEq, Nat.reduceAdd, Nat.reduceLeDiff, Nat.reduceMul, iX, V, Cu, hw]
 cases q1 : A0 x.kd 1 10 <;> simp only [go_sem, ↓reduceIte, Nat.reduceEqDiff, reduceCtorEq, Nat.reduceAdd, Nat.reduceLeDiff, Nat.reduceMul, V]
 ·exact same 1
 obtain ⟨k1, k2⟩ := Bz.1 q1
 refine Aa (fun m' h => vI (x := x) q m' h) rfl hw fun r1 H1 ⟨⟨b, e1, ht⟩, e2⟩ => ?_
 subst e1
 have e2 : H1 = H := e2
 subst e2
 cases b <;> simp only [go_sem, ↓reduceIte, Nat.reduceEqDiff, reduceCtorEq, Nat.reduceAdd, Nat.reduceLeDiff, Nat.reduceMul, V]
 ·exact same 2
 refine Ap rfl (fun m' h hz hn => yA q hi (ht rfl) k1 k2 hx9 h (MW.arg q hm hz) (hn.trans hnr)) rfl hw fun r1 H2 ⟨κ', w', f', b, e1, q', hi', fr, sb⟩ => ?_
 subst e1
 have U := q'.vcs
 simp only [go_sem, ↓reduceIte, Nat.reduceEqDiff, reduceCtorEq, Nat.reduceAdd, Nat.reduceLeDiff, Nat.reduceMul, List.getElem?_toArray, Bd, V, U]
 cases b <;> simp only [go_sem, ↓reduceIte, Nat.reduceEqDiff, reduceCtorEq, Nat.reduceAdd, Nat.reduceLeDiff, Nat.reduceMul, V, U]
 ·exact ⟨κ', w', f', 3, rfl, q', hi', fr, sb⟩
 ·exact ⟨κ', w', f', 0, rfl, q', hi', fr, sb⟩
abbrev yF : Value := .agg #[.slice none 0 0, .slice none 0 0, .slice none 0 0, .slice none 0 0, .int .i64 0, .int .i64 0, .int .i64 0, .slice none 0 0, .slice none 0 0, .slice none 0 0, .slice none 0 0, .slice none 0 0, .slice none 0 0, .slice none 0 0, .slice none 0 0, .slice none 0 0]
theorem Ur {N M : Nat} {v : Value} (h : Ao M v) (k : ∀ j ∈ Ae v, N ≤ j) : Ao N v := by
 rcases h with rfl | ⟨id, e, ln, cap, rfl, hid⟩
 ·exact .inl rfl
 ·exact .inr ⟨id, e, ln, cap, rfl, k id (by simp [Ae])⟩
theorem Kh.pre0 {κ κ' : Nat → Nat} {H H1 H2 : Hp} {c : Nat} (p : H <+: H1) (k : Kh κ κ' H1 H2 c) (h : ∀ j, j < H.length → κ j ≠ c) : H <+: H2 := by
 refine List.prefix_iff_getElem?.2 fun j hj => ?_
 have := p.length_le
 rw [k.row j (by omega) (h j hj), Ed p hj, B7 hj]
theorem Dy {α : Type} {κ : Nat → Nat} {c : Nat} {R : α → List Value → Prop} {n : Nat} {H : Hp} : C9 κ c R n H (.slice none 0 0) [] := ⟨Bl, fun id hid => by simp [Ae] at hid, .inl rfl⟩
def NwR (H : Hp) (c : Ic) (r : Value) (H' : Hp) : Prop := H <+: H' ∧ ((Co c = false ∧ r = .tuple #[yF, .bool false]) ∨ (Co c = true ∧ ∃ (κ : Nat → Nat) (w : Wd) (f : Rf), r = .tuple #[Mv w f, .bool true] ∧ He κ H' w f ∧ Pe w ∧ (∀ j, j < H.length → κ j = 99) ∧ ∀ v ∈ Be f, Ao H.length v))
abbrev nO (c : Ic) (L : List Ch) : Wd := { cf := c, now := 0, fresh := 101, net := [], tms := [], kys := [], wts := List.replicate 6 (false, 0, 0, 0), crs := [], chs := L, log := [], acs := [], lks := [] }
theorem pD {m : Md} {H : Hp} {c : Ic} {u s l p : Value} (hc : K5 H c u s l p) (h1 : c.ur.length ≤ 1000) (h2 : c.sr.length ≤ 1000) (h3 : c.lk.length ≤ 1000) (h4 : c.px.length ≤ 1000) (hw : Wr m H) (hnr : m.nr = false) : Ci EE m 145 [T3 c u s l p] H fun r H' => NwR H c r H' := by
 refine Bt rfl rfl sR (by simp [jB]) ?_
 obtain ⟨v1, v2, v3, v4⟩ := hc.vcs
 have a55 := Ax (iO hc)
 have c6 : (6 : Int) * ((32 : Nat) : Int) ≤ 140737488355328 := by decide
 simp only [go_sem, ↓reduceIte, Nat.reduceEqDiff, reduceCtorEq, Nat.reduceAdd, Nat.reduceLeDiff, Nat.reduceMul, jB, v1, v2, v3, v4, a55, hw]
 cases q1 : Co c <;> simp only [go_sem, ↓reduceIte, Nat.reduceEqDiff, reduceCtorEq, Nat.reduceAdd, Nat.reduceLeDiff, Nat.reduceMul, v1, v2, v3, v4]
 ·exact ⟨List.prefix_refl _, .inl ⟨q1, rfl⟩⟩
 refine Af ?_
 simp only [go_sem, ↓reduceIte, Nat.reduceEqDiff, reduceCtorEq, Nat.reduceAdd, Nat.reduceLeDiff, Nat.reduceMul, v1, v2, v3, v4]
 refine Aa (fun m' h => Aah hc h1 h2 h3 h4 h) rfl hw fun r1 H1 ⟨u', s', l', p', e1, p1, hc', o1, o2, o3, o4⟩ => ?_
 subst e1
 have p1 : H <+: H1 := p1
 obtain ⟨u1, u2, u3, u4⟩ := hc'.vcs
 simp only [go_sem, ↓reduceIte, Nat.reduceEqDiff, reduceCtorEq, Nat.reduceAdd, Nat.reduceLeDiff, Nat.reduceMul, u1, u2, u3, u4, Mw, Ma, E7, D1, Int.reduceLE, Int.reduceToNat, Int.reduceMul, c6]
 refine ⟨by rfl, ?_⟩
 have p2 : H1 <+: H1 ++ [Bn 6 [Value.bool false, Value.int IntKind.i64 0, Value.int IntKind.i64 0, Value.int IntKind.i64 0]] := Eg
 generalize hH2 : H1 ++ [Bn 6 [Value.bool false, Value.int IntKind.i64 0, Value.int IntKind.i64 0, Value.int IntKind.i64 0]] = H2 at p2
 have kz : ∀ {α : Type} {R : α → List Value → Prop} {n : Nat} {v : Value} {l : List α}, Sl R n H1 v l → Ao H.length v → C9 (Cm (Cm (fun _ => 99) H.length 0) H1.length 3) 0 R n H2 v l := fun {α R n v l} h ho => ⟨h.pre p2, fun id hid => by rw [A2 (h.ids id hid), Gp (Bc ho id hid)], ho.mono (Nat.zero_le _)⟩
 have hnew : (∀ id, id = H1.length → Cm (Cm (fun _ => 99) H.length 0) H1.length 3 id = 3) := fun id h => Gp (by omega)
 have Q0 : He (Cm (Cm (fun _ => 99) H.length 0) H1.length 3) H2 (nO c []) ⟨u', s', l', p', .slice none 0 0, .slice none 0 0, .slice none 0 0, .slice (some ⟨H1.length, 0, some 4⟩) 6 24, .slice none 0 0, .slice none 0 0, .slice none 0 0, .slice none 0 0, .slice none 0 0⟩ :=
  ⟨kz hc'.ur o1, kz hc'.sr o2, kz hc'.lk o3, kz hc'.px o4, fun _ => Dy, fun _ => Dy, fun _ => Dy, fun _ => ⟨.inr ⟨H1.length, 0, 24, _, rfl, by rw [← hH2]; exact List.getElem?_concat_length, by rw [D1]; rfl, by simp, by simp, fun i a hi => by
   have hi6 : i < 6 := by have := (Em hi).1; simpa using this
   have : a = (false, 0, 0, 0) := by
    have := List.mem_of_getElem? hi
    simpa using this
   subst this
   match i, hi6 with
   | 0, _ => rfl
   | 1, _ => rfl
   | 2, _ => rfl
   | 3, _ => rfl
   | 4, _ => rfl
   | 5, _ => rfl⟩, fun id hid => hnew id (by simpa [Ae] using hid), .inr ⟨_, _, _, _, rfl, Nat.zero_le _⟩⟩, fun _ => Dy, fun _ => Dy, fun _ => Dy, fun _ => Dy, fun _ => Dy⟩
 have old0 : ∀ j, j < H.length → Cm (Cm (fun _ => 99) H.length 0) H1.length 3 j = 99 := fun j hj => by rw [A2 (J3 hj p1.length_le), A2 hj]
 generalize Cm (Cm (fun _ => 99) H.length 0) H1.length 3 = κ0 at Q0 old0
 have pl := p1.length_le
 have ow0 : ∀ v ∈ Be ⟨u', s', l', p', .slice none 0 0, .slice none 0 0, .slice none 0 0, .slice (some ⟨H1.length, 0, some 4⟩) 6 24, .slice none 0 0, .slice none 0 0, .slice none 0 0, .slice none 0 0, .slice none 0 0⟩, Ao H.length v := fun v hv => by
  simp only [Be, List.mem_cons, List.not_mem_nil, or_false] at hv
  rcases hv with rfl | rfl | rfl | rfl | rfl | rfl | rfl | rfl <;> first | exact .inl rfl | exact .inr ⟨_, _, _, _, rfl, pl⟩
 refine Ak 3 (fun i t => t.ρ 5 = .val (.int .i64 i) ∧ (∃ g, t.ρ 2 = .bx g [.slice none 0 0, .slice none 0 0, .slice none 0 0, .slice none 0 0, .int .i64 0, .int .i64 0, .int .i64 0, .slice none 0 0, .slice none 0 0, .slice none 0 0, .slice none 0 0, .slice none 0 0, .slice none 0 0, .slice none 0 0, .slice none 0 0, .slice none 0 0]) ∧ H <+: t.H ∧ ∃ (κ : Nat → Nat) (f : Rf) (g : Nat) (L : List Ch), t.ρ 4 = .bx g (M4 (nO c L) f) ∧ L.length = i ∧ He κ t.H (nO c L) f ∧ (∀ j, j < H.length → κ j = 99) ∧ ∀ v ∈ Be f, Ao H.length v)
  (fun t => (∃ g, t.ρ 2 = .bx g [.slice none 0 0, .slice none 0 0, .slice none 0 0, .slice none 0 0, .int .i64 0, .int .i64 0, .int .i64 0, .slice none 0 0, .slice none 0 0, .slice none 0 0, .slice none 0 0, .slice none 0 0, .slice none 0 0, .slice none 0 0, .slice none 0 0, .slice none 0 0]) ∧ H <+: t.H ∧ ∃ (κ : Nat → Nat) (f : Rf) (g : Nat) (L : List Ch), t.ρ 4 = .bx g (M4 (nO c L) f) ∧ L.length = 3 ∧ He κ t.H (nO c L) f ∧ (∀ j, j < H.length → κ j = 99) ∧ ∀ v ∈ Be f, Ao H.length v) ?_ ?_ ?_
 ·refine ⟨by simp [Ah], ⟨_, by simp [Ah]; rfl⟩, ?_, κ0, _, 3, [], by simp [Ah], rfl, ?_, old0, ow0⟩
  ·exact p1.trans p2
  ·exact Q0
 ·rintro i t hi ⟨t5, ⟨g2, t2⟩, tp, κ, f, g, L, t4, hL, Q, hk, ho⟩
  have V := Q.vcs
  simp only [go_sem, ↓reduceIte, Nat.reduceEqDiff, reduceCtorEq, Nat.reduceAdd, Nat.reduceLeDiff, Nat.reduceMul, t5, t2, t4]
  cases qq : decide ((i : Int) < 3) <;> simp only [go_sem, ↓reduceIte, Nat.reduceEqDiff, reduceCtorEq, Nat.reduceAdd, Nat.reduceLeDiff, Nat.reduceMul, t5, t2, t4]
  ·have := Au qq
   exact ⟨⟨_, rfl⟩, tp, κ, f, _, L, rfl, by omega, Q, hk, ho⟩
  have qq := As qq
  have hwt := hw.pre tp
  refine Af ?_
  simp only [go_sem, ↓reduceIte, Nat.reduceEqDiff, reduceCtorEq, Nat.reduceAdd, Nat.reduceLeDiff, Nat.reduceMul, t5, t2, t4, V]
  refine Aa (fun m' h => gK h) rfl hwt fun r1 H3 ⟨e1, e2⟩ => ?_
  subst e1
  have e2 : H3 = t.H := e2
  subst e2
  obtain ⟨h', H4, a1, a2, a3, a4⟩ := (Q.h (by decide)).app1 (m := m) (bytes := 32) (a := ((-1, []) : Ch)) (cs := [.int .i64 (-1), .slice none 0 0]) hwt (fun id hid => hw id (Bc (ho f.h (by simp [Be])) id hid)) (fun h => by rw [hnr] at h; cases h) rfl ⟨_, rfl, Dy⟩ (by unfold Ev.room; show (L.length + 1) * 32 ≤ _; omega) (by unfold Ev.room; show L.length + 1 ≤ _; omega)
  have Q1 := (Eo.keep Q a3 (by decide)).f5 (a2.mono fun _ _ h => h.keep a3 (by decide))
  have V9 := a2.1.vc
  simp only [go_sem, ↓reduceIte, Nat.reduceEqDiff, reduceCtorEq, Nat.reduceAdd, Nat.reduceLeDiff, Nat.reduceMul, t5, t2, t4, V]
  rw [a1]
  rotate_left
  ·rfl
  ·rfl
  ·rfl
  simp only [go_sem, ↓reduceIte, Nat.reduceEqDiff, reduceCtorEq, Nat.reduceAdd, Nat.reduceLeDiff, Nat.reduceMul, t5, t2, t4, V, V9]
  refine ⟨by rfl, ?_⟩
  have w1 := Ab ((i : Int) + 1) (by omega) (by omega)
  simp only [go_sem, ↓reduceIte, Nat.reduceEqDiff, reduceCtorEq, Nat.reduceAdd, Nat.reduceLeDiff, Nat.reduceMul, t5, t2, t4, V, V9, w1]
  refine ⟨by omega, by simp, ⟨_, rfl⟩, ?_, _, { f with h := h' }, _, L ++ [(-1, [])], rfl, by simp [hL], Q1, fun j hj => ?_, fun v hv => ?_⟩
  ·exact a3.pre0 tp fun j hj => by rw [hk j hj]; decide
  ·have := tp.length_le
   rw [A2 (by omega)]
   exact hk j hj
  ·simp only [Be, List.mem_cons, List.not_mem_nil, or_false] at hv
   rcases hv with rfl | rfl | rfl | rfl | rfl | rfl | rfl | rfl
   rotate_left 4
   ·refine Ur a2.2.2 fun j hj => ?_
    rcases a4 j hj with h | h
    ·exact Bc (ho f.h (by simp [Be])) j h
    ·exact C8 tp.length_le h
   all_goals exact ho _ (by simp [Be])
 ·rintro t ⟨⟨g2, t2⟩, tp, κ, f, g, L, t4, hL, Q, hk, ho⟩
  have V := Q.vcs
  simp only [go_sem, ↓reduceIte, Nat.reduceEqDiff, reduceCtorEq, Nat.reduceAdd, Nat.reduceLeDiff, Nat.reduceMul, t2, t4, V]
  exact ⟨tp, .inr ⟨q1, κ, nO c L, f, rfl, Q, ⟨by simp, hL, fun _ hz => absurd hz List.not_mem_nil, fun _ hz => absurd hz List.not_mem_nil, Nat.zero_le _, fun _ hz => absurd hz List.not_mem_nil, fun _ hz => absurd hz List.not_mem_nil, Nat.zero_le _, Nat.zero_le _, Nat.zero_le _, Nat.zero_le _, Nat.zero_le _⟩, hk, ho⟩⟩
theorem Nl {α : Type} {e : α → List Value} {n : Nat} (he : ∀ a, (e a).length = n) : ∀ {l : List α} {i : Nat} {a : α}, l[i]? = some a → ((l.flatMap e).drop (i * n)).take n = e a
 | [], i, a, h => by simp at h
 | b :: l, 0, a, h => by
  simp at h; subst h
  rw [Nat.zero_mul, List.drop_zero, List.flatMap_cons, List.take_append_of_le_length (by rw [he]; exact Nat.le_refl _), List.take_of_length_le (by rw [he]; exact Nat.le_refl _)]
 | b :: l, i + 1, a, h => by
  rw [List.flatMap_cons, show (i + 1) * n = (e b).length + i * n by rw [he, Nat.add_mul]; omega, List.drop_append, List.drop_of_length_le (by omega), List.nil_append, Nat.add_sub_cancel_left]
  exact Nl he (by simpa using h)
theorem Hn {α : Type} {e : α → List Value} {n : Nat} (he : ∀ a, (e a).length = n) : ∀ l : List α, (l.flatMap e).length = l.length * n
 | [] => by simp
 | b :: l => by rw [List.flatMap_cons, List.length_append, he, Hn he l, List.length_cons, Nat.add_mul]; omega
abbrev T8 (H : Hp) (v : Value) (l : List Ac) : Prop := Sl (En Pc) 9 H v l
theorem Lc (a : Ac) : (Pc a).length = 9 := rfl
theorem bF (a : Ac) : (Pc a).all scal = true := rfl
theorem T8.app {m : Md} {N : Nat} {H : Hp} {v : Value} {l : List Ac} (L2 : List Ac) (h : T8 H v l) (ho : Ao N v) (hN : N ≤ H.length) (hw : ∀ id, N ≤ id → m.wr id = true) (hp : 0 < L2.length) (hb : l.length + L2.length ≤ 1000) :
  ∃ v' H', (∀ (s : St) (x y : X), s.H = H → Av s.ρ x = some v → ex s.ρ y = .vs L2.length (L2.flatMap Pc) → Ce m s 9 80 x y = some (.val v', { s with H := H' })) ∧ T8 H' v' (l ++ L2) ∧ Ao N v' ∧
   (∀ j, j < H.length → j ∉ Ae v → H'[j]? = H[j]?) ∧ H.length ≤ H'.length ∧ (∀ j ∈ Ae v', j ∈ Ae v ∨ H.length ≤ j) ∧ ∀ H0 : Hp, H0.length ≤ N → H0 <+: H → H0 <+: H' := by
 obtain ⟨v', H', a1, a2⟩ := Sl.app (m := m) (n := L2.length) (bytes := 80) (l2 := L2) (cs := L2.flatMap Pc) h ho hN hw (fun _ => List.all_eq_true.2 fun c hc => by
  obtain ⟨a, _, ha⟩ := List.mem_flatMap.1 hc
  exact List.all_eq_true.1 (bF a) c ha) hp (Hn Lc L2) (fun i a hi => Nl Lc hi) (by unfold Ev.room; omega) (by unfold Ev.room; omega)
 exact ⟨v', H', fun s x y hH hx hy => a1 s x y hH hx (by rw [hy]; simp [F8, Hn Lc]), a2⟩
def wI (H : Hp) (r : Value) (H' : Hp) : Prop := ∃ l : List Ac, H <+: H' ∧ T8 H' r l ∧ Ao H.length r ∧ l.length ≤ 30 ∧ ∀ a ∈ l, a.tx.size ≤ 1000
theorem Nw {H : Hp} : T8 (H ++ [[]]) (.slice (some ⟨H.length, 0, some 9⟩) 0 (0 * 9)) [] := .inr ⟨H.length, 0, 0, [], rfl, by simp, by simp, by simp, by simp, fun i a hi => by simp at hi⟩
theorem zR {m : Md} {H : Hp} {c : Ic} {u s l p : Value} (hc : K5 H c u s l p) {a b e : Int} {x : Re} (hw : Wr m H) : Ci EE m 147 [T3 c u s l p, .int .i64 a, .int .i64 b, Ry x, .int .i64 e] H fun r H' => wI H r H' := by
 refine Bt rfl rfl vJ (by simp [lI]) ?_
 obtain ⟨v1, v2, v3, v4⟩ := hc.vcs
 have p0 : H <+: H ++ [[]] := Eg
 have hc0 := hc.pre p0
 have hw0 := hw.pre p0
 have a55 := Ax (iO hc0)
 have a61 := Ax (cW (H := H ++ [[]]) (a := a))
 have a101 := Ax (Rj (H := H ++ [[]]) (x := x))
 have s0 : T8 (H ++ [[]]) (.slice (some ⟨H.length, 0, some 9⟩) 0 (0 * 9)) [] := Nw
 have o0 : Ao H.length (.slice (some ⟨H.length, 0, some 9⟩) 0 (0 * 9)) := .inr ⟨_, _, _, _, rfl, Nat.le_refl _⟩
 generalize hwv : Value.slice (some ⟨H.length, 0, some 9⟩) 0 (0 * 9) = wv0 at s0 o0
 have nof : ∀ {H1 : Hp}, H <+: H1 → wI H (.slice (some ⟨H1.length, 0, some 9⟩) 0 0) (H1 ++ [[]]) := fun {H1} h => ⟨[], h.trans (Eg), Nw, .inr ⟨_, _, _, _, rfl, h.length_le⟩, Nat.zero_le _, by simp⟩
 have no : wI H wv0 (H ++ [[]]) := ⟨[], p0, s0, o0, Nat.zero_le _, by simp⟩
 simp only [go_sem, ↓reduceIte, Nat.reduceEqDiff, reduceCtorEq, Nat.reduceAdd, Nat.reduceLeDiff, Nat.reduceMul, lI, v1, v2, v3, v4, Ba, hwv, a55, hw0]
 cases q1 : Co c <;> simp only [go_sem, ↓reduceIte, Nat.reduceEqDiff, reduceCtorEq, Nat.reduceAdd, Nat.reduceLeDiff, Nat.reduceMul, v1, v2, v3, v4, a61, hw0]
 ·exact no
 have cp := dZ q1
 cases q2 : A0 a 0 5 <;> simp only [go_sem, ↓reduceIte, Nat.reduceEqDiff, reduceCtorEq, Nat.reduceAdd, Nat.reduceLeDiff, Nat.reduceMul, v1, v2, v3, v4]
 ·exact no
 cases q3 : decide (b < 0) <;> simp only [go_sem, ↓reduceIte, Nat.reduceEqDiff, reduceCtorEq, Nat.reduceAdd, Nat.reduceLeDiff, Nat.reduceMul, v1, v2, v3, v4]
 rotate_left
 ·exact no
 cases q4 : decide (b ≥ 3) <;> simp only [go_sem, ↓reduceIte, Nat.reduceEqDiff, reduceCtorEq, Nat.reduceAdd, Nat.reduceLeDiff, Nat.reduceMul, v1, v2, v3, v4, a101, hw0]
 rotate_left
 ·exact no
 have q3 := Au q3
 have q4 := Au q4
 cases q5 : E4 x <;> simp only [go_sem, ↓reduceIte, Nat.reduceEqDiff, reduceCtorEq, Nat.reduceAdd, Nat.reduceLeDiff, Nat.reduceMul, v1, v2, v3, v4, Cu, hw0]
 ·exact no
 cases q6 : A0 e 0 7 <;> simp only [go_sem, ↓reduceIte, Nat.reduceEqDiff, reduceCtorEq, Nat.reduceAdd, Nat.reduceLeDiff, Nat.reduceMul, v1, v2, v3, v4]
 ·exact no
 refine Aa (fun m' h => cU hc0 m' h) rfl hw0 fun r1 H1 ⟨⟨y, e1, y1, y2, y3⟩, e2⟩ => ?_
 subst e1
 have e2 : H1 = H ++ [[]] := e2
 subst e2
 obtain ⟨wv1, H1, b1, b2, b3, b4, b5, b6, b7⟩ := T8.app (m := m) [⟨2, a, 0, 0, 0, (0, 0, 0), ⟨#[]⟩⟩, ⟨4, y, 0, 0, 0, (0, 0, 0), ⟨#[]⟩⟩, ⟨5, a, 1, 0, 0, (0, 0, 0), ⟨#[]⟩⟩] s0 o0 p0.length_le hw (by simp) (by simp)
 simp only [go_sem, ↓reduceIte, Nat.reduceEqDiff, reduceCtorEq, Nat.reduceAdd, Nat.reduceLeDiff, Nat.reduceMul, v1, v2, v3, v4]
 rw [b1]
 rotate_left
 ·rfl
 ·rfl
 ·rfl
 have p1 := b7 H (Nat.le_refl _) p0
 simp only [go_sem, ↓reduceIte, Nat.reduceEqDiff, reduceCtorEq, Nat.reduceAdd, Nat.reduceLeDiff, Nat.reduceMul, v1, v2, v3, v4]
 refine Ak 4 (fun i t => t.ρ 1 = .val (.int .i64 a) ∧ t.ρ 2 = .val (.int .i64 b) ∧ t.ρ 4 = .val (.int .i64 e) ∧ (∃ g, t.ρ 5 = .bx g [u, s, l, p, .int .i64 c.skew]) ∧ (∃ g, t.ρ 8 = .bx g [.int .i64 x.1, .int .i64 x.2.1, .int .i64 x.2.2]) ∧ (∃ z, t.ρ 12 = .val (.int .i64 z)) ∧ (∃ z, t.ρ 13 = .val (.int .i64 z)) ∧ (∃ z, t.ρ 14 = .val (.int .i64 z)) ∧ t.ρ 15 = .val (.int .i64 i) ∧ H <+: t.H ∧ ∃ wv L, t.ρ 11 = .val wv ∧ T8 t.H wv L ∧ Ao H.length wv ∧ L.length ≤ 3 + 3 * i ∧ ∀ a ∈ L, a.tx.size ≤ 1000) (fun t => H <+: t.H) ?_ ?_ ?_
 ·exact ⟨by simp [Ah, Cb], by simp [Ah, Cb], by simp [Ah, Cb], ⟨_, by simp [Ah]; rfl⟩, ⟨_, by simp [Ah]; rfl⟩, ⟨y, by simp [Ah]⟩, ⟨2, by simp [Ah]⟩, ⟨1, by simp [Ah]⟩, by simp [Ah], p1, wv1, _, by simp [Ah], b2, b3, by simp, fun z hz => by
   simp only [List.nil_append, List.mem_cons, List.not_mem_nil, or_false] at hz
   rcases hz with rfl | rfl | rfl <;> exact Nat.zero_le _⟩
 ·rintro i t hi ⟨t1, t2, t4, ⟨g5, t5⟩, ⟨g8, t8⟩, ⟨z1, t12⟩, ⟨z2, t13⟩, ⟨z3, t14⟩, t15, tp, wv, L, t11, sL, oL, nL, xL⟩
  simp only [go_sem, ↓reduceIte, Nat.reduceEqDiff, reduceCtorEq, Nat.reduceAdd, Nat.reduceLeDiff, Nat.reduceMul, t1, t2, t4, t5, t8, t11, t12, t13, t14, t15]
  cases qq : decide ((i : Int) ≤ 3) <;> simp only [go_sem, ↓reduceIte, Nat.reduceEqDiff, reduceCtorEq, Nat.reduceAdd, Nat.reduceLeDiff, Nat.reduceMul, t1, t2, t4, t5, t8, t11, t12, t13, t14, t15]
  ·exact tp
  have qq := As qq
  obtain ⟨wv2, H2, d1, d2, d3, d4, d5, d6, d7⟩ := T8.app (m := m) [⟨3, a, IntKind.i64.wrap (z3 - 1), b, 0, x, ⟨#[]⟩⟩, ⟨4, z1, z2, 0, 0, (0, 0, 0), ⟨#[]⟩⟩, ⟨5, a, IntKind.i64.wrap (z2 + 1), 0, 0, (0, 0, 0), ⟨#[]⟩⟩] sL oL tp.length_le hw (by simp) (by simp; omega)
  rw [d1]
  rotate_left
  ·rfl
  ·rfl
  ·rfl
  have p2 := d7 H (Nat.le_refl _) tp
  have hc2 := hc.pre p2
  obtain ⟨sv, id, q, o, hx, ho, hr, ha⟩ := hc2.sr.intI (n := b) (by omega) (by have := cp.sl; omega)
  simp only [go_sem, ↓reduceIte, Nat.reduceEqDiff, reduceCtorEq, Nat.reduceAdd, Nat.reduceLeDiff, Nat.reduceMul, t1, t2, t4, t5, t8, t12, t13, t14, t15, v1, v2, v3, v4, ha, ho, hr]
  have x2 : ∀ a' ∈ L ++ [(⟨3, a, IntKind.i64.wrap (z3 - 1), b, 0, x, ⟨#[]⟩⟩ : Ac), ⟨4, z1, z2, 0, 0, (0, 0, 0), ⟨#[]⟩⟩, ⟨5, a, IntKind.i64.wrap (z2 + 1), 0, 0, (0, 0, 0), ⟨#[]⟩⟩], a'.tx.size ≤ 1000 := fun z hz => by
   rcases Lh hz with h | h
   ·exact xL z h
   ·simp only [List.mem_cons, List.not_mem_nil, or_false] at h
    rcases h with rfl | rfl | rfl <;> exact Nat.zero_le _
  cases q7 : decide (z1 = sv) <;> simp only [go_sem, ↓reduceIte, Nat.reduceEqDiff, reduceCtorEq, Nat.reduceAdd, Nat.reduceLeDiff, Nat.reduceMul, t1, t2, t4, t5, t8, t12, t13, t14, t15, v1, v2, v3, v4]
  ·refine Af ?_
   simp only [go_sem, ↓reduceIte, Nat.reduceEqDiff, reduceCtorEq, Nat.reduceAdd, Nat.reduceLeDiff, Nat.reduceMul, t1, t2, t4, t5, t8, t12, t13, t14, t15, v1, v2, v3, v4, ha, ho, hr]
   refine Aa (fun m' h => qS hc2 m' h) rfl (hw.pre p2) fun r1 H3 ⟨⟨y, e1, y1, y2⟩, e2⟩ => ?_
   subst e1
   have e2 : H3 = H2 := e2
   subst e2
   simp only [go_sem, ↓reduceIte, Nat.reduceEqDiff, reduceCtorEq, Nat.reduceAdd, Nat.reduceLeDiff, Nat.reduceMul, t1, t2, t4, t5, t8, t12, t13, t14, t15, v1, v2, v3, v4]
   refine ⟨by rfl, ?_⟩
   have w1 := Ab ((i : Int) + 1) (by omega) (by omega)
   cases q8 : decide (y < 0) <;> simp only [go_sem, ↓reduceIte, Nat.reduceEqDiff, reduceCtorEq, Nat.reduceAdd, Nat.reduceLeDiff, Nat.reduceMul, t1, t2, t4, t5, t8, t12, t13, t14, t15, v1, v2, v3, v4, w1]
   ·exact ⟨by omega, ⟨_, rfl⟩, ⟨_, rfl⟩, ⟨_, rfl⟩, ⟨_, rfl⟩, ⟨_, rfl⟩, by simp, p2, _, _, rfl, d2, d3, by simp; omega, x2⟩
   ·exact nof p2
  ·obtain ⟨wv3, H3, e1, e2, e3, e4, e5, e6, e7⟩ := T8.app (m := m) [⟨6, a, IntKind.i64.wrap (IntKind.i64.wrap (z3 + 1) - 1), e, 0, (0, 0, 0), ⟨#[]⟩⟩, ⟨7, b, IntKind.i64.wrap (z2 + 2), 0, 0, (0, 0, 0), ⟨#[]⟩⟩] d2 d3 p2.length_le hw (by simp) (by simp; omega)
   rw [e1]
   rotate_left
   ·rfl
   ·rfl
   ·rfl
   simp only [go_sem, ↓reduceIte, Nat.reduceEqDiff, reduceCtorEq, Nat.reduceAdd, Nat.reduceLeDiff, Nat.reduceMul, t1, t2, t4, t5, t8, t12, t13, t14, t15]
   exact ⟨_, e7 H (Nat.le_refl _) p2, e2, e3, by simp; omega, fun z hz => by
    rcases Lh hz with h | h
    ·exact x2 z h
    ·simp only [List.mem_cons, List.not_mem_nil, or_false] at h
     rcases h with rfl | rfl <;> exact Nat.zero_le _⟩
 ·rintro t tp
  simp only [go_sem, ↓reduceIte, Nat.reduceEqDiff, reduceCtorEq, Nat.reduceAdd, Nat.reduceLeDiff, Nat.reduceMul]
  exact nof tp
theorem cH (z : List Value) : Bn 6 z = z ++ (z ++ (z ++ (z ++ (z ++ z)))) := by simp [Bn, List.replicate_succ]
theorem cJ (z : List Value) : Bn 8 z = z ++ (z ++ (z ++ (z ++ (z ++ (z ++ (z ++ z)))))) := by simp [Bn, List.replicate_succ]
theorem aT (z : List Value) : Bn 12 z = z ++ (z ++ (z ++ (z ++ (z ++ (z ++ (z ++ (z ++ (z ++ (z ++ (z ++ z)))))))))) := by simp [Bn, List.replicate_succ]
attribute [go_sem] cH cJ aT
def xA (H0 : Hp) (c : Value) (id : Nat) (n : Int) (r : Value) (H' : Hp) : Prop := ∃ x : Int, r = .int .i64 x ∧ 0 ≤ x ∧ (0 < n → x < n) ∧ CX H0 H' c id
theorem Cs {m : Md} {H0 H : Hp} {c : Value} {id : Nat} {n : Int} (hc : CX H0 H c id) (hw : m.wr id = true) : Ci EE m 93 [c, .int .i64 n] H fun r H' => xA H0 c id n r H' :=
 (Wk hc.1 hw).mono fun _ _ ⟨x, e, h0, h1, _, cs⟩ => ⟨x, e, h0, h1, hc.trans cs.cx⟩
def FlX (H0 : Hp) (c : Value) (id : Nat) (r : Value) (H' : Hp) : Prop := ∃ b : Bool, r = .bool b ∧ CX H0 H' c id
theorem Hd {m : Md} {H0 H : Hp} {c : Value} {id : Nat} {n : Int} (hc : CX H0 H c id) (hw : m.wr id = true) : Ci EE m 92 [c, .int .i64 n] H fun r H' => FlX H0 c id r H' :=
 (wH hc.1 hw).mono fun _ _ ⟨b, e, cs⟩ => ⟨b, e, hc.trans cs.cx⟩
def xX (H0 : Hp) (c : Value) (id : Nat) (l : List Int) (r : Value) (H' : Hp) : Prop := ∃ x ∈ l, r = .int .i64 x ∧ CX H0 H' c id
theorem Ku {m : Md} {H0 H : Hp} {c : Value} {id : Nat} (l : List Int) (hc : CX H0 H c id) (hid : id < H0.length) (hw : m.wr id = true) (h0 : 0 < l.length) (hl : l.length ≤ 9223372036854775807) :
  Ci EE m 94 [c, .slice (some ⟨H.length, 0, some 1⟩) l.length l.length] (H ++ [l.map (Value.int .i64)]) fun r H' => xX H0 c id l r H' := by
 have hc2 := hc.trans (CX.ofPre hc.1 (List.prefix_append H [l.map (Value.int .i64)]))
 refine (f94 hc2.1 hw (Vq l hl) h0 (by have := hc.2.2; simp [Ae]; omega)).mono fun _ _ ⟨x, hx, e, cs⟩ => ⟨x, hx, e, hc2.trans cs.cx⟩
def rK (H0 : Hp) (c : Value) (id : Nat) (r : Value) (H' : Hp) : Prop := ∃ x : Re, r = Ry x ∧ CX H0 H' c id
theorem CX.trim {H H' : Hp} {c : Value} {id : Nat} (h : CX H H' c id) (hid : id < H.length) : CX H (H'.take H.length) c id := (h.cut hid).cx
theorem uY {m : Md} {H : Hp} {c : Value} {id : Nat} (hc : K6 H c id) (hw : m.wr id = true) : Ci EE m 155 [c] H fun r H' => rK H c id r H' := by
 have hid := hc.lt
 refine Hi rfl rfl rS (by simp [kE]) fun m' hm => ?_
 have hw : m'.wr id = true := (hm id).trans hw
 simp only [go_sem, ↓reduceIte, Nat.reduceEqDiff, reduceCtorEq, Nat.reduceAdd, Nat.reduceLeDiff, Nat.reduceMul, kE]
 refine Aq (Cs (CX.refl hc) hw) rfl fun r H1 ⟨x1, e, _, _, h1⟩ => ?_
 subst e
 simp only [go_sem, ↓reduceIte, Nat.reduceEqDiff, reduceCtorEq, Nat.reduceAdd, Nat.reduceLeDiff, Nat.reduceMul]
 refine Aq (Cs h1 hw) rfl fun r H2 ⟨x2, e, _, _, h2⟩ => ?_
 subst e
 simp only [go_sem, ↓reduceIte, Nat.reduceEqDiff, reduceCtorEq, Nat.reduceAdd, Nat.reduceLeDiff, Nat.reduceMul]
 refine Aq (Cs h2 hw) rfl fun r H3 ⟨x3, e, _, _, h3⟩ => ?_
 subst e
 simp only [go_sem, ↓reduceIte, Nat.reduceEqDiff, reduceCtorEq, Nat.reduceAdd, Nat.reduceLeDiff, Nat.reduceMul]
 refine Aq (Hd h3 hw) rfl fun r H4 ⟨b1, e, h4⟩ => ?_
 subst e
 cases b1 <;> simp only [go_sem, ↓reduceIte, Nat.reduceEqDiff, reduceCtorEq, Nat.reduceAdd, Nat.reduceLeDiff, Nat.reduceMul]
 ·refine Aq (Hd h4 hw) rfl fun r H5 ⟨b2, e, h5⟩ => ?_
  subst e
  cases b2 <;> simp only [go_sem, ↓reduceIte, Nat.reduceEqDiff, reduceCtorEq, Nat.reduceAdd, Nat.reduceLeDiff, Nat.reduceMul]
  ·exact ⟨rfl, (_, _, _), rfl, h5.trim hid⟩
  ·exact ⟨rfl, (_, _, _), rfl, h5.trim hid⟩
 ·refine Aq (Hd h4 hw) rfl fun r H5 ⟨b2, e, h5⟩ => ?_
  subst e
  cases b2 <;> simp only [go_sem, ↓reduceIte, Nat.reduceEqDiff, reduceCtorEq, Nat.reduceAdd, Nat.reduceLeDiff, Nat.reduceMul]
  ·exact ⟨rfl, (_, _, _), rfl, h5.trim hid⟩
  ·exact ⟨rfl, (_, _, _), rfl, h5.trim hid⟩
theorem eX {m : Md} {H0 H : Hp} {c : Value} {id : Nat} (hc : CX H0 H c id) (hw : m.wr id = true) : Ci EE m 155 [c] H fun r H' => rK H0 c id r H' :=
 (uY hc.1 hw).mono fun _ _ ⟨b, e, cs⟩ => ⟨b, e, hc.trans cs⟩
theorem Aal {m : Md} {H : Hp} {c : Value} {id : Nat} (hc : K6 H c id) (hw : m.wr id = true) : Ci EE m 156 [c] H fun r H' => rK H c id r H' := by
 have hid := hc.lt
 refine Hi rfl rfl Aam (by simp [jI]) fun m' hm => ?_
 have hw : m'.wr id = true := (hm id).trans hw
 simp only [go_sem, ↓reduceIte, Nat.reduceEqDiff, reduceCtorEq, Nat.reduceAdd, Nat.reduceLeDiff, Nat.reduceMul, jI]
 refine Aq (eX (CX.refl hc) hw) rfl fun r H1 ⟨x, e, h1⟩ => ?_
 subst e
 simp only [go_sem, ↓reduceIte, Nat.reduceEqDiff, reduceCtorEq, Nat.reduceAdd, Nat.reduceLeDiff, Nat.reduceMul]
 refine Aq (Hd h1 hw) rfl fun r H2 ⟨b, e, h2⟩ => ?_
 subst e
 cases b <;> simp only [go_sem, ↓reduceIte, Nat.reduceEqDiff, reduceCtorEq, Nat.reduceAdd, Nat.reduceLeDiff, Nat.reduceMul]
 ·exact ⟨rfl, (_, _, _), rfl, h2.trim hid⟩
 refine Aq (Cs h2 hw) rfl fun r H3 ⟨n, e, _, _, h3⟩ => ?_
 subst e
 simp only [go_sem, ↓reduceIte, Nat.reduceEqDiff, reduceCtorEq, Nat.reduceAdd, Nat.reduceLeDiff, Nat.reduceMul]
 cases q1 : decide (n = 0) <;> simp only [go_sem, ↓reduceIte, Nat.reduceEqDiff, reduceCtorEq, Nat.reduceAdd, Nat.reduceLeDiff, Nat.reduceMul]
 ·cases q2 : decide (n = 1) <;> simp only [go_sem, ↓reduceIte, Nat.reduceEqDiff, reduceCtorEq, Nat.reduceAdd, Nat.reduceLeDiff, Nat.reduceMul]
  ·refine Aq (Ku [-1, 100000, 100001] h3 hid hw (by decide) (by decide)) rfl fun r H4 ⟨y, _, e, h4⟩ => ?_
   subst e
   simp only [go_sem, ↓reduceIte, Nat.reduceEqDiff, reduceCtorEq, Nat.reduceAdd, Nat.reduceLeDiff, Nat.reduceMul]
   exact ⟨rfl, (x.1, x.2.1, y), rfl, h4.trim hid⟩
  ·refine Aq (Ku [-1, 256] h3 hid hw (by decide) (by decide)) rfl fun r H4 ⟨y, _, e, h4⟩ => ?_
   subst e
   simp only [go_sem, ↓reduceIte, Nat.reduceEqDiff, reduceCtorEq, Nat.reduceAdd, Nat.reduceLeDiff, Nat.reduceMul]
   exact ⟨rfl, (x.1, y, x.2.2), rfl, h4.trim hid⟩
 ·refine Aq (Ku [-1, 8] h3 hid hw (by decide) (by decide)) rfl fun r H4 ⟨y, _, e, h4⟩ => ?_
  subst e
  simp only [go_sem, ↓reduceIte, Nat.reduceEqDiff, reduceCtorEq, Nat.reduceAdd, Nat.reduceLeDiff, Nat.reduceMul]
  exact ⟨rfl, (y, x.2.1, x.2.2), rfl, h4.trim hid⟩
theorem fO {m : Md} {H0 H : Hp} {c : Value} {id : Nat} (hc : CX H0 H c id) (hw : m.wr id = true) : Ci EE m 156 [c] H fun r H' => rK H0 c id r H' :=
 (Aal hc.1 hw).mono fun _ _ ⟨b, e, cs⟩ => ⟨b, e, hc.trans cs⟩
theorem Bu.app {m : Md} {N : Nat} {H : Hp} {v : Value} {l : List Int} (L2 : List Int) (h : Bu H v l) (ho : Ao N v) (hN : N ≤ H.length) (hw : ∀ id, N ≤ id → m.wr id = true) (hp : 0 < L2.length) (hb : l.length + L2.length ≤ 1000) :
  ∃ v' H', (∀ (s : St) (x y : X), s.H = H → Av s.ρ x = some v → ex s.ρ y = .vs L2.length (L2.flatMap eI) → Ce m s 1 8 x y = some (.val v', { s with H := H' })) ∧ Bu H' v' (l ++ L2) ∧ Ao N v' ∧
   (∀ j, j < H.length → j ∉ Ae v → H'[j]? = H[j]?) ∧ H.length ≤ H'.length ∧ (∀ j ∈ Ae v', j ∈ Ae v ∨ H.length ≤ j) ∧ ∀ H0 : Hp, H0.length ≤ N → H0 <+: H → H0 <+: H' := by
 have he : ∀ a, (eI a).length = 1 := fun _ => rfl
 obtain ⟨v', H', a1, a2⟩ := Sl.app (m := m) (n := L2.length) (bytes := 8) (l2 := L2) (cs := L2.flatMap eI) h ho hN hw (fun _ => List.all_eq_true.2 fun c hc => by
  obtain ⟨a, _, ha⟩ := List.mem_flatMap.1 hc
  rw [bJ ha]; rfl) hp (Hn he L2) (fun i a hi => Nl he hi) (by unfold Ev.room; omega) (by unfold Ev.room; omega)
 exact ⟨v', H', fun s x y hH hx hy => a1 s x y hH hx (by rw [hy]; simp [F8, Hn he]), a2⟩
theorem K6.arg {H : Hp} {c : Value} {id : Nat} (h : K6 H c id) {vs : List Value} : id ∈ (c :: vs).flatMap Ae := by rw [h.1]; simp [Ae]
def Kr (H0 H : Hp) (c : Value) (id np nv : Nat) (pv vv : Value) : Prop := CX H0 H c id ∧ ∃ P V, Bu H pv P ∧ Bu H vv V ∧ Ao H0.length pv ∧ Ao H0.length vv ∧ (∀ j ∈ Ae pv, j ∉ Ae vv) ∧ P.length ≤ np ∧ V.length ≤ nv
theorem Kr.nil {H : Hp} {c : Value} {id : Nat} {H0 : Hp} (h : CX H0 H c id) : Kr H0 H c id 0 0 (.slice none 0 0) (.slice none 0 0) := ⟨h, [], [], Bl, Bl, .inl rfl, .inl rfl, fun j hj => by simp [Ae] at hj, Nat.le_refl _, Nat.le_refl _⟩
theorem Kr.cx {H0 H H' : Hp} {c : Value} {id np nv : Nat} {pv vv : Value} (h : Kr H0 H c id np nv pv vv) (hid : id < H0.length) (k : CX H0 H' c id) (hk : ∀ j, H0.length ≤ j → j < H.length → H'[j]? = H[j]?) : Kr H0 H' c id np nv pv vv := by
 obtain ⟨_, P, V, p1, p2, o1, o2, d, n1, n2⟩ := h
 have st : ∀ {v : Value} {l : List Int}, Bu H v l → Ao H0.length v → Bu H' v l := fun {v l} h ho => h.frame (fun _ _ _ h => h) fun i off e ln cap hv => hk i (Bc ho i (by subst hv; simp [Ae])) (h.ids i (by subst hv; simp [Ae]))
 exact ⟨k, P, V, st p1 o1, st p2 o2, o1, o2, d, n1, n2⟩
theorem Kr.go {H0 H H' : Hp} {c : Value} {id np nv : Nat} {pv vv : Value} (h : Kr H0 H c id np nv pv vv) (hid : id < H0.length) (k : CX H H' c id) : Kr H0 H' c id np nv pv vv :=
 h.cx hid (h.1.trans k) fun j h1 h2 => k.2.1 j h2 (by omega)
theorem Kr.mono {H0 H : Hp} {c : Value} {id np nv np' nv' : Nat} {pv vv : Value} (h : Kr H0 H c id np nv pv vv) (h1 : np ≤ np') (h2 : nv ≤ nv') : Kr H0 H c id np' nv' pv vv := by
 obtain ⟨a, P, V, p1, p2, o1, o2, d, n1, n2⟩ := h
 exact ⟨a, P, V, p1, p2, o1, o2, d, by omega, by omega⟩
theorem Kr.swap {H0 H : Hp} {c : Value} {id np nv : Nat} {pv vv : Value} (h : Kr H0 H c id np nv pv vv) : Kr H0 H c id nv np vv pv := by
 obtain ⟨a, P, V, p1, p2, o1, o2, d, n1, n2⟩ := h
 exact ⟨a, V, P, p2, p1, o2, o1, fun j hj hm => d j hm hj, n2, n1⟩
theorem Kr.vcs {H0 H : Hp} {c : Value} {id np nv : Nat} {pv vv : Value} (h : Kr H0 H c id np nv pv vv) : vc pv = some [pv] ∧ vc vv = some [vv] := by
 obtain ⟨a, P, V, p1, p2, _⟩ := h
 exact ⟨p1.vc, p2.vc⟩
theorem Kr.add {m : Md} {H0 H : Hp} {c : Value} {id np nv : Nat} {pv vv : Value} (L2 : List Int) (h : Kr H0 H c id np nv pv vv) (hid : id < H0.length) (hw : Wr m H0) (hp : 0 < L2.length) (hb : np + L2.length ≤ 1000) :
  ∃ pv' H', (∀ (s : St) (x y : X), s.H = H → Av s.ρ x = some pv → ex s.ρ y = .vs L2.length (L2.flatMap eI) → Ce m s 1 8 x y = some (.val pv', { s with H := H' })) ∧ Kr H0 H' c id (np + L2.length) nv pv' vv := by
 obtain ⟨a, P, V, p1, p2, o1, o2, d, n1, n2⟩ := h
 obtain ⟨v', H', a1, a2, a3, a4, a5, a6, _⟩ := Bu.app (m := m) L2 p1 o1 a.2.2 hw hp (by omega)
 have hl := a.2.2
 refine ⟨v', H', a1, a.own hid (fun j hj => a4 j (by omega) fun hm => by have := Bc o1 j hm; omega) a5, _, V, a2, p2.frame (fun _ _ _ h => h) (fun i off e ln cap hv => a4 i (p2.ids i (by subst hv; simp [Ae])) fun hm => d i hm (by subst hv; simp [Ae])), a3, o2, fun j hj hm => ?_, by simp; omega, n2⟩
 rcases a6 j hj with h | h
 ·exact d j h hm
 ·have := p2.ids j hm; omega
def TkX (H0 : Hp) (c : Value) (id : Nat) (r : Value) (H' : Hp) : Prop := ∃ (a b d : Int) (x : Re) (pv vv : Value), r = .agg #[.int .i64 a, .int .i64 b, .int .i64 d, .int .i64 x.1, .int .i64 x.2.1, .int .i64 x.2.2, pv, vv] ∧ Kr H0 H' c id 20 20 pv vv ∧ -1 ≤ b ∧ b ≤ 13
abbrev z8 : List Value := [.int .i64 0, .int .i64 0, .int .i64 0, .int .i64 0, .int .i64 0, .int .i64 0, .slice none 0 0, .slice none 0 0]
abbrev rE (a b d : Int) (x : Re) (pv vv : Value) : List Value := [.int .i64 a, .int .i64 b, .int .i64 d, .int .i64 x.1, .int .i64 x.2.1, .int .i64 x.2.2, pv, vv]
theorem rQ {m : Md} {H : Hp} {c : Value} {id : Nat} (hc : K6 H c id) (hw0 : Wr m H) (hw : m.wr id = true) : Ci EE m 136 [c] H fun r H' => TkX H c id r H' := by
 have hid := hc.lt
 refine Bt rfl rfl vH (by simp [lC]) ?_
 simp only [go_sem, ↓reduceIte, Nat.reduceEqDiff, reduceCtorEq, Nat.reduceAdd, Nat.reduceLeDiff, Nat.reduceMul, lC]
 refine Aq (Cs (CX.refl hc) hw) rfl fun r H1 ⟨x1, e, _, _, h1⟩ => ?_
 subst e
 simp only [go_sem, ↓reduceIte, Nat.reduceEqDiff, reduceCtorEq, Nat.reduceAdd, Nat.reduceLeDiff, Nat.reduceMul]
 refine Aq (Ku [0, 1, 2, 10, 11, 12] h1 hid hw (by decide) (by decide)) rfl fun r H2 ⟨x2, m2, e, h2⟩ => ?_
 subst e
 simp only [go_sem, ↓reduceIte, Nat.reduceEqDiff, reduceCtorEq, Nat.reduceAdd, Nat.reduceLeDiff, Nat.reduceMul]
 refine Aq (Cs h2 hw) rfl fun r H3 ⟨x3, e, _, _, h3⟩ => ?_
 subst e
 simp only [go_sem, ↓reduceIte, Nat.reduceEqDiff, reduceCtorEq, Nat.reduceAdd, Nat.reduceLeDiff, Nat.reduceMul]
 refine Aq (eX h3 hw) rfl fun r H4 ⟨x, e, h4⟩ => ?_
 subst e
 simp only [go_sem, ↓reduceIte, Nat.reduceEqDiff, reduceCtorEq, Nat.reduceAdd, Nat.reduceLeDiff, Nat.reduceMul]
 refine Aq (Cs h4 hw) rfl fun r H5 ⟨k0, e, k1, k2, h5⟩ => ?_
 subst e
 have k2 := k2 (by omega)
 obtain ⟨k, rfl⟩ : ∃ k : Nat, k0 = k := ⟨k0.toNat, by omega⟩
 simp only [go_sem, ↓reduceIte, Nat.reduceEqDiff, reduceCtorEq, Nat.reduceAdd, Nat.reduceLeDiff, Nat.reduceMul]
 refine Fq (fun n t => t.ρ 0 = .val c ∧ (∃ g, t.ρ 2 = .bx g z8) ∧ t.ρ 4 = .val (.int .i64 n) ∧ ∃ g a b d x pv vv np, t.ρ 3 = .bx g (rE a b d x pv vv) ∧ Kr H t.H c id np 0 pv vv ∧ np + n ≤ 3 ∧ -1 ≤ b ∧ b ≤ 13) (fun t => t.ρ 0 = .val c ∧ (∃ g, t.ρ 2 = .bx g z8) ∧ ∃ g a b d x pv vv, t.ρ 3 = .bx g (rE a b d x pv vv) ∧ Kr H t.H c id 3 0 pv vv ∧ -1 ≤ b ∧ b ≤ 13) k ?_ ?_ ?_
 ·exact ⟨by simp [Ah, Cb], ⟨_, by simp [Ah]; rfl⟩, by simp [Ah], 2, x1, x2, IntKind.i64.wrap (101 + x3), x, _, _, 0, by simp [Ah], Kr.nil h5, by omega, by simp at m2; omega⟩
 ·rintro n t ⟨t0, ⟨g2, t2⟩, t4, g3, a, b, d, x, pv, vv, np, t3, tb, hn, hb⟩
  simp only [go_sem, ↓reduceIte, Nat.reduceEqDiff, reduceCtorEq, Nat.reduceAdd, Nat.reduceLeDiff, Nat.reduceMul, t0, t2, t3, t4]
  cases q1 : decide ((n : Int) > 0) <;> simp only [go_sem, ↓reduceIte, Nat.reduceEqDiff, reduceCtorEq, Nat.reduceAdd, Nat.reduceLeDiff, Nat.reduceMul, t0, t2, t3, t4]
  ·exact ⟨⟨_, rfl⟩, _, _, _, _, _, _, _, rfl, tb.mono (by omega) (by omega), hb⟩
  have q1 := As q1
  refine Af ?_
  simp only [go_sem, ↓reduceIte, Nat.reduceEqDiff, reduceCtorEq, Nat.reduceAdd, Nat.reduceLeDiff, Nat.reduceMul, t0, t2, t3, t4]
  refine Ap rfl (fun m' h hz _ => Cs (CX.refl tb.1.1) (hz id tb.1.1.arg hw)) rfl (fun j hj => hw0 j (C8 tb.1.2.2 hj)) fun r H6 ⟨y, e, _, _, h6⟩ => ?_
  subst e
  have t6 := tb.go hid h6
  obtain ⟨pv', H7, a1, t7⟩ := Kr.add (m := m) [y] t6 hid hw0 (by simp) (by simp; omega)
  obtain ⟨V1, V2⟩ := t6.vcs
  obtain ⟨V3, V4⟩ := t7.vcs
  simp only [go_sem, ↓reduceIte, Nat.reduceEqDiff, reduceCtorEq, Nat.reduceAdd, Nat.reduceLeDiff, Nat.reduceMul, t0, t2, t3, t4, V1, V2]
  rw [a1]
  rotate_left
  ·rfl
  ·rfl
  ·rfl
  simp only [go_sem, ↓reduceIte, Nat.reduceEqDiff, reduceCtorEq, Nat.reduceAdd, Nat.reduceLeDiff, Nat.reduceMul, t0, t2, t3, t4, V1, V2, V3, V4]
  refine ⟨by rfl, ?_⟩
  have w1 : IntKind.i64.wrap ((n : Int) - 1) = ((n - 1 : Nat) : Int) := by rw [Ab _ (by omega) (by omega)]; omega
  simp only [go_sem, ↓reduceIte, Nat.reduceEqDiff, reduceCtorEq, Nat.reduceAdd, Nat.reduceLeDiff, Nat.reduceMul, t0, t2, t3, t4, V1, V2, V3, V4, w1]
  exact ⟨n - 1, by omega, ⟨_, rfl⟩, rfl, _, a, b, d, x, _, _, np + 1, rfl, t7, by omega, hb⟩
 rintro t ⟨t0, ⟨g2, t2⟩, g3, a, b, d, x, pv, vv, t3, tb, hb⟩
 simp only [go_sem, ↓reduceIte, Nat.reduceEqDiff, reduceCtorEq, Nat.reduceAdd, Nat.reduceLeDiff, Nat.reduceMul, t0, t2, t3]
 refine Aq (Cs (CX.refl tb.1.1) hw) rfl fun r H6 ⟨k0, e, k1, k2, h6⟩ => ?_
 subst e
 have k2 := k2 (by omega)
 obtain ⟨k, rfl⟩ : ∃ k : Nat, k0 = k := ⟨k0.toNat, by omega⟩
 have tb := tb.go hid h6
 simp only [go_sem, ↓reduceIte, Nat.reduceEqDiff, reduceCtorEq, Nat.reduceAdd, Nat.reduceLeDiff, Nat.reduceMul, t0, t2, t3]
 refine Fq (fun n t => t.ρ 0 = .val c ∧ (∃ g, t.ρ 2 = .bx g z8) ∧ t.ρ 5 = .val (.int .i64 n) ∧ ∃ g a b d x pv vv np, t.ρ 3 = .bx g (rE a b d x pv vv) ∧ Kr H t.H c id 3 np pv vv ∧ np + n ≤ 3 ∧ -1 ≤ b ∧ b ≤ 13) (fun t => t.ρ 0 = .val c ∧ (∃ g, t.ρ 2 = .bx g z8) ∧ ∃ g a b d x pv vv, t.ρ 3 = .bx g (rE a b d x pv vv) ∧ Kr H t.H c id 3 3 pv vv ∧ -1 ≤ b ∧ b ≤ 13) k ?_ ?_ ?_
 ·exact ⟨by simp [Ah, t0], ⟨_, by simp [Ah, t2]; rfl⟩, by simp [Ah], g3, a, b, d, x, pv, vv, 0, by simp [Ah, t3], tb, by omega, hb⟩
 ·clear t0 t2 t3 tb
  rintro n t ⟨t0, ⟨g2, t2⟩, t4, g3, a, b, d, x, pv, vv, np, t3, tb, hn, hb⟩
  simp only [go_sem, ↓reduceIte, Nat.reduceEqDiff, reduceCtorEq, Nat.reduceAdd, Nat.reduceLeDiff, Nat.reduceMul, t0, t2, t3, t4]
  cases q1 : decide ((n : Int) > 0) <;> simp only [go_sem, ↓reduceIte, Nat.reduceEqDiff, reduceCtorEq, Nat.reduceAdd, Nat.reduceLeDiff, Nat.reduceMul, t0, t2, t3, t4]
  ·exact ⟨⟨_, rfl⟩, _, _, _, _, _, _, _, rfl, tb.mono (by omega) (by omega), hb⟩
  have q1 := As q1
  refine Af ?_
  simp only [go_sem, ↓reduceIte, Nat.reduceEqDiff, reduceCtorEq, Nat.reduceAdd, Nat.reduceLeDiff, Nat.reduceMul, t0, t2, t3, t4]
  refine Ap rfl (fun m' h hz _ => Cs (CX.refl tb.1.1) (hz id tb.1.1.arg hw)) rfl (fun j hj => hw0 j (C8 tb.1.2.2 hj)) fun r H6 ⟨y, e, _, _, h6⟩ => ?_
  subst e
  have t6 := tb.go hid h6
  obtain ⟨pv', H7, a1, t7⟩ := Kr.add (m := m) [y] t6.swap hid hw0 (by simp) (by simp; omega)
  obtain ⟨V1, V2⟩ := t6.vcs
  obtain ⟨V3, V4⟩ := t7.swap.vcs
  simp only [go_sem, ↓reduceIte, Nat.reduceEqDiff, reduceCtorEq, Nat.reduceAdd, Nat.reduceLeDiff, Nat.reduceMul, t0, t2, t3, t4, V1, V2]
  rw [a1]
  rotate_left
  ·rfl
  ·rfl
  ·rfl
  simp only [go_sem, ↓reduceIte, Nat.reduceEqDiff, reduceCtorEq, Nat.reduceAdd, Nat.reduceLeDiff, Nat.reduceMul, t0, t2, t3, t4, V1, V2, V3, V4]
  refine ⟨by rfl, ?_⟩
  have w1 : IntKind.i64.wrap ((n : Int) - 1) = ((n - 1 : Nat) : Int) := by rw [Ab _ (by omega) (by omega)]; omega
  simp only [go_sem, ↓reduceIte, Nat.reduceEqDiff, reduceCtorEq, Nat.reduceAdd, Nat.reduceLeDiff, Nat.reduceMul, t0, t2, t3, t4, V1, V2, V3, V4, w1]
  exact ⟨n - 1, by omega, ⟨_, rfl⟩, rfl, _, a, b, d, x, _, _, np + 1, rfl, t7.swap, by omega, hb⟩
 clear t0 t2 t3 tb
 rintro t ⟨t0, ⟨g2, t2⟩, g3, a, b, d, x, pv, vv, t3, tb, hb⟩
 have fin : ∀ {H' : Hp} {r : Value}, Kr H H' c id 20 20 pv vv → ∀ (a b d : Int) (x : Re), (-1 ≤ b ∧ b ≤ 13) → r = .agg #[.int .i64 a, .int .i64 b, .int .i64 d, .int .i64 x.1, .int .i64 x.2.1, .int .i64 x.2.2, pv, vv] → TkX H c id r H' := fun h a b d x hb e => ⟨a, b, d, x, pv, vv, e, h, hb⟩
 obtain ⟨V1, V2⟩ := tb.vcs
 simp only [go_sem, ↓reduceIte, Nat.reduceEqDiff, reduceCtorEq, Nat.reduceAdd, Nat.reduceLeDiff, Nat.reduceMul, t0, t2, t3]
 refine Aq (Hd (CX.refl tb.1.1) hw) rfl fun r H6 ⟨b1, e, h6⟩ => ?_
 subst e
 have tb := tb.go hid h6
 cases b1 <;> simp only [go_sem, ↓reduceIte, Nat.reduceEqDiff, reduceCtorEq, Nat.reduceAdd, Nat.reduceLeDiff, Nat.reduceMul, t0, t2, t3, V1, V2]
 ·exact fin (tb.mono (by omega) (by omega)) a b d x hb rfl
 refine Aq (Cs (CX.refl tb.1.1) hw) rfl fun r H7 ⟨n, e, _, _, h7⟩ => ?_
 subst e
 have tb := tb.go hid h7
 simp only [go_sem, ↓reduceIte, Nat.reduceEqDiff, reduceCtorEq, Nat.reduceAdd, Nat.reduceLeDiff, Nat.reduceMul, t0, t2, t3]
 have tk : ∀ {H' : Hp}, CX H7 H' c id → Kr H H' c id 20 20 pv vv := fun h => (tb.go hid h).mono (by omega) (by omega)
 have c7 := CX.refl tb.1.1
 have hid7 : id < H7.length := J3 hid tb.1.2.2
 cases q0 : decide (n = 0) <;> simp only [go_sem, ↓reduceIte, Nat.reduceEqDiff, reduceCtorEq, Nat.reduceAdd, Nat.reduceLeDiff, Nat.reduceMul, t0, t2, t3]
 rotate_left
 ·refine Aq (Ku [-1, 6] c7 hid7 hw (by decide) (by decide)) rfl fun r H8 ⟨y, _, e, h8⟩ => ?_
  subst e
  simp only [go_sem, ↓reduceIte, Nat.reduceEqDiff, reduceCtorEq, Nat.reduceAdd, Nat.reduceLeDiff, Nat.reduceMul, t0, t2, t3, V1, V2]
  exact fin (tk h8) y b d x hb rfl
 cases q1 : decide (n = 1) <;> simp only [go_sem, ↓reduceIte, Nat.reduceEqDiff, reduceCtorEq, Nat.reduceAdd, Nat.reduceLeDiff, Nat.reduceMul, t0, t2, t3]
 rotate_left
 ·refine Aq (Ku [-1, 3, 9, 13] c7 hid7 hw (by decide) (by decide)) rfl fun r H8 ⟨y, my, e, h8⟩ => ?_
  subst e
  simp only [go_sem, ↓reduceIte, Nat.reduceEqDiff, reduceCtorEq, Nat.reduceAdd, Nat.reduceLeDiff, Nat.reduceMul, t0, t2, t3, V1, V2]
  exact fin (tk h8) a y d x (by simp at my; omega) rfl
 cases q2 : decide (n = 2) <;> simp only [go_sem, ↓reduceIte, Nat.reduceEqDiff, reduceCtorEq, Nat.reduceAdd, Nat.reduceLeDiff, Nat.reduceMul, t0, t2, t3]
 rotate_left
 ·refine Aq (Ku [0, 1000000, 1000001] c7 hid7 hw (by decide) (by decide)) rfl fun r H8 ⟨y, _, e, h8⟩ => ?_
  subst e
  simp only [go_sem, ↓reduceIte, Nat.reduceEqDiff, reduceCtorEq, Nat.reduceAdd, Nat.reduceLeDiff, Nat.reduceMul, t0, t2, t3, V1, V2]
  exact fin (tk h8) a b y x hb rfl
 cases q3 : decide (n = 3) <;> simp only [go_sem, ↓reduceIte, Nat.reduceEqDiff, reduceCtorEq, Nat.reduceAdd, Nat.reduceLeDiff, Nat.reduceMul, t0, t2, t3]
 rotate_left
 ·refine Aq (fO c7 hw) rfl fun r H8 ⟨y, e, h8⟩ => ?_
  subst e
  simp only [go_sem, ↓reduceIte, Nat.reduceEqDiff, reduceCtorEq, Nat.reduceAdd, Nat.reduceLeDiff, Nat.reduceMul, t0, t2, t3, V1, V2]
  exact fin (tk h8) a b d y hb rfl
 cases q4 : decide (n = 4) <;> simp only [go_sem, ↓reduceIte, Nat.reduceEqDiff, reduceCtorEq, Nat.reduceAdd, Nat.reduceLeDiff, Nat.reduceMul, t0, t2, t3]
 ·obtain ⟨pv', H8, a1, t8⟩ := Kr.add (m := m) [0, 1, 2] tb.swap hid hw0 (by simp) (by simp)
  obtain ⟨V3, V4⟩ := t8.vcs
  rw [a1]
  rotate_left
  ·rfl
  ·rfl
  ·rfl
  simp only [go_sem, ↓reduceIte, Nat.reduceEqDiff, reduceCtorEq, Nat.reduceAdd, Nat.reduceLeDiff, Nat.reduceMul, t0, t2, t3, V1, V2, V3, V4]
  exact ⟨a, b, d, x, _, _, rfl, t8.swap.mono (by simp) (by simp), hb⟩
 ·obtain ⟨pv', H8, a1, t8⟩ := Kr.add (m := m) [0, 1, 2, 3] tb hid hw0 (by simp) (by simp)
  obtain ⟨V3, V4⟩ := t8.vcs
  rw [a1]
  rotate_left
  ·rfl
  ·rfl
  ·rfl
  simp only [go_sem, ↓reduceIte, Nat.reduceEqDiff, reduceCtorEq, Nat.reduceAdd, Nat.reduceLeDiff, Nat.reduceMul, t0, t2, t3, V1, V2, V3, V4]
  exact ⟨a, b, d, x, _, _, rfl, t8.mono (by simp) (by simp), hb⟩
def yU (H0 : Hp) (c : Value) (id n : Nat) (r : Value) (H' : Hp) : Prop := ∃ s : ByteArray, r = .string s ∧ s.size ≤ n ∧ CX H0 H' c id
theorem qN {m : Md} {H0 H : Hp} {c : Value} {id : Nat} {s : ByteArray} (hc : CX H0 H c id) (hs : s.size ≤ 900) (hw0 : Wr m H) (hw : m.wr id = true) : Ci EE m 137 [c, .string s] H fun r H' => yU H0 c id 903 r H' := by
 have hid := hc.1.lt
 refine Hi rfl rfl sS (by simp [kC]) fun m' hm => ?_
 have hw : m'.wr id = true := (hm id).trans hw
 have hw0 : Wr m' H := fun j hj => (hm j).trans (hw0 j hj)
 simp only [go_sem, ↓reduceIte, Nat.reduceEqDiff, reduceCtorEq, Nat.reduceAdd, Nat.reduceLeDiff, Nat.reduceMul, kC]
 refine Aq (Hd (CX.refl hc.1) hw) rfl fun r H1 ⟨b, e, h1⟩ => ?_
 subst e
 cases b <;> simp only [go_sem, ↓reduceIte, Nat.reduceEqDiff, reduceCtorEq, Nat.reduceAdd, Nat.reduceLeDiff, Nat.reduceMul]
 ·exact ⟨s, rfl, by omega, hc.trans (h1.trim hid)⟩
 refine Aq (oB (s := s) h1.1 (by omega) (fun j hj => hw0 j (C8 h1.2.2 hj)) hw) rfl fun r H2 ⟨t, e, ht, cs⟩ => ?_
 subst e
 simp only [go_sem, ↓reduceIte, Nat.reduceEqDiff, reduceCtorEq, Nat.reduceAdd, Nat.reduceLeDiff, Nat.reduceMul]
 exact ⟨t, rfl, by omega, hc.trans ((h1.trans cs.cx).trim hid)⟩
def CrX (H0 : Hp) (c : Value) (id : Nat) (r : Value) (H' : Hp) : Prop := ∃ x : Cr, r = rB x ∧ x.2.2.2.2.2.size ≤ 1000 ∧ X5 x.2.2.1 ∧ CX H0 H' c id
theorem wE {m : Md} {H0 H : Hp} {c : Value} {id : Nat} (hc : CX H0 H c id) (hw0 : Wr m H) (hw : m.wr id = true) : Ci EE m 96 [c] H fun r H' => CrX H0 c id r H' := by
 have hid := hc.1.lt
 refine Hi rfl rfl k96 (by simp [wA]) fun m' hm => ?_
 have hw : m'.wr id = true := (hm id).trans hw
 have hw0 : Wr m' H := fun j hj => (hm j).trans (hw0 j hj)
 simp only [go_sem, ↓reduceIte, Nat.reduceEqDiff, reduceCtorEq, Nat.reduceAdd, Nat.reduceLeDiff, Nat.reduceMul, wA]
 refine Aq (rQ hc.1 hw0 hw) rfl fun r H1 ⟨a, b, d, x, pv, vv, e, tb, hb⟩ => ?_
 subst e
 obtain ⟨V1, V2⟩ := tb.vcs
 have hw1 : Wr m' H1 := fun j hj => hw0 j (C8 tb.1.2.2 hj)
 simp only [go_sem, ↓reduceIte, Nat.reduceEqDiff, reduceCtorEq, Nat.reduceAdd, Nat.reduceLeDiff, Nat.reduceMul, V1, V2]
 refine Af ?_
 simp only [go_sem, ↓reduceIte, Nat.reduceEqDiff, reduceCtorEq, Nat.reduceAdd, Nat.reduceLeDiff, Nat.reduceMul, V1, V2]
 refine Ap rfl (fun m' h hz _ => Cs (CX.refl tb.1.1) (hz id tb.1.1.arg hw)) rfl hw1 fun r H2 ⟨y, e, _, _, h2⟩ => ?_
 subst e
 have tb := tb.go hid h2
 have hw2 : Wr m' H2 := fun j hj => hw0 j (C8 tb.1.2.2 hj)
 simp only [go_sem, ↓reduceIte, Nat.reduceEqDiff, reduceCtorEq, Nat.reduceAdd, Nat.reduceLeDiff, Nat.reduceMul, V1, V2]
 have tb' := tb
 obtain ⟨_, P, V, p1, p2, _⟩ := tb'
 refine Aa (fun m' h => Qd (k := 11) p1 p2 m' h) rfl hw2 fun r H3 ⟨⟨s, e1, hs⟩, e2⟩ => ?_
 subst e1
 have e2 : H3 = H2 := e2
 subst e2
 simp only [go_sem, ↓reduceIte, Nat.reduceEqDiff, reduceCtorEq, Nat.reduceAdd, Nat.reduceLeDiff, Nat.reduceMul, V1, V2]
 refine Ap rfl (fun m' h hz _ => qN (CX.refl tb.1.1) hs h (hz id tb.1.1.arg hw)) rfl hw2 fun r H4 ⟨t, e, ht, h4⟩ => ?_
 subst e
 simp only [go_sem, ↓reduceIte, Nat.reduceEqDiff, reduceCtorEq, Nat.reduceAdd, Nat.reduceLeDiff, Nat.reduceMul, V1, V2]
 refine ⟨by rfl, ?_⟩
 have h4 := (tb.go hid h4).1
 exact ⟨rfl, (y, a, b, d, x, t), rfl, show t.size ≤ 1000 by omega, show X5 b from ⟨by omega, by omega⟩, hc.trans (h4.trim hid)⟩
theorem C9.cx {α : Type} {κ : Nat → Nat} {k : Nat} {R : α → List Value → Prop} {esz : Nat} {H H' : Hp} {v c : Value} {l : List α} {id : Nat} (h : C9 κ k R esz H v l) (hk : κ id = 99) (h9 : k ≠ 99) (hc : CX H H' c id) : Sl R esz H' v l :=
 h.1.cx hc fun hm => h9 ((h.2.1 id hm).symm.trans hk)
def vF (H0 : Hp) (c : Value) (id : Nat) (r : Value) (H' : Hp) : Prop := ∃ n : Int, r = .int .i64 n ∧ CX H0 H' c id
theorem fR {m : Md} {κ : Nat → Nat} {H0 H : Hp} {w : Wd} {f : Rf} {c : Value} {id : Nat} {a : Int} {b : Bool} (q : He κ H w f) (hk : κ id = 99) (hc : CX H0 H c id) (hw : m.wr id = true) : Ci EE m 169 [c, Mv w f, .int .i64 a, .bool b] H fun r H' => vF H0 c id r H' := by
 have hid := hc.1.lt
 refine Hi rfl rfl tQ (by simp [iR]) fun m' hm => ?_
 have hw : m'.wr id = true := (hm id).trans hw
 have V := q.vcs
 have Q := q.c (by decide)
 simp only [go_sem, ↓reduceIte, Nat.reduceEqDiff, reduceCtorEq, Nat.reduceAdd, Nat.reduceLeDiff, Nat.reduceMul, iR, V]
 refine Ak w.crs.length (fun i t => t.ρ 0 = .val c ∧ t.ρ 2 = .val (.int .i64 a) ∧ t.ρ 3 = .val (.bool b) ∧ (∃ g, t.ρ 5 = .bx g (M4 w f)) ∧ (∃ z, t.ρ 9 = .val (.int .i64 z)) ∧ t.ρ 10 = .val (.int .i64 i) ∧ CX H t.H c id) (fun t => CX H t.H c id ∧ ∃ z, t.ρ 9 = .val (.int .i64 z)) ?_ ?_ ?_
 ·exact ⟨by simp [Ah, Cb], by simp [Ah, Cb], by simp [Ah, Cb], ⟨_, by simp [Ah]; rfl⟩, ⟨-1, by simp [Ah]⟩, by simp [Ah], CX.refl hc.1⟩
 ·rintro i t hi ⟨t0, t2, t3, ⟨g5, t5⟩, ⟨z, t9⟩, t10, tc⟩
  have Qt := Q.cx hk (by decide) tc
  simp only [go_sem, ↓reduceIte, Nat.reduceEqDiff, reduceCtorEq, Nat.reduceAdd, Nat.reduceLeDiff, Nat.reduceMul, t0, t2, t3, t5, t9, t10, Qt.len]
  cases q1 : decide ((i : Int) < w.crs.length) <;> simp only [go_sem, ↓reduceIte, Nat.reduceEqDiff, reduceCtorEq, Nat.reduceAdd, Nat.reduceLeDiff, Nat.reduceMul, t0, t2, t3, t5, t9, t10]
  ·exact ⟨tc, z, rfl⟩
  have q1 := As q1
  have w1 := Ab ((i : Int) + 1) (by omega) (by have := Qt.room; unfold Ev.room at this; omega)
  obtain ⟨x, i2, p2, o2, hx, ho, hr, hp, hia⟩ := Cr.cells Qt (n := (i : Int)) (by omega) q1
  have r0 := Al hr (j := 0) (by omega)
  have r2 := Al hr (j := 2) (by omega)
  simp only [Nat.add_zero, List.getElem?_cons_zero, List.getElem?_cons_succ] at r0 r2
  simp only [go_sem, ↓reduceIte, Nat.reduceEqDiff, reduceCtorEq, Nat.reduceAdd, Nat.reduceLeDiff, Nat.reduceMul, t0, t2, t3, t5, t9, t10, hia, ho, r0, r2]
  cases q2 : decide (x.1 = a) <;> simp only [go_sem, ↓reduceIte, Nat.reduceEqDiff, reduceCtorEq, Nat.reduceAdd, Nat.reduceLeDiff, Nat.reduceMul, t0, t2, t3, t5, t9, t10, hia, ho, r0, r2]
  ·exact ⟨by omega, ⟨_, rfl⟩, ⟨_, rfl⟩, by rw [w1]; rfl, tc⟩
  generalize hy : (decide (decide (x.2.2.1 ≥ 10) = b)) = y
  cases y <;> simp only [go_sem, ↓reduceIte, Nat.reduceEqDiff, reduceCtorEq, Nat.reduceAdd, Nat.reduceLeDiff, Nat.reduceMul, t0, t2, t3, t5, t9, t10, w1]
  ·exact ⟨by omega, ⟨_, rfl⟩, ⟨_, rfl⟩, rfl, tc⟩
  cases q3 : decide (z < 0) <;> simp only [go_sem, ↓reduceIte, Nat.reduceEqDiff, reduceCtorEq, Nat.reduceAdd, Nat.reduceLeDiff, Nat.reduceMul, t0, t2, t3, t5, t9, t10, w1]
  ·refine Aq (Hd tc hw) rfl fun r H1 ⟨b1, e, h1⟩ => ?_
   subst e
   cases b1 <;> simp only [go_sem, ↓reduceIte, Nat.reduceEqDiff, reduceCtorEq, Nat.reduceAdd, Nat.reduceLeDiff, Nat.reduceMul, t0, t2, t3, t5, t9, t10, w1]
   ·exact ⟨by omega, ⟨_, rfl⟩, ⟨_, rfl⟩, rfl, h1⟩
   ·exact ⟨by omega, ⟨_, rfl⟩, ⟨_, rfl⟩, rfl, h1⟩
  ·exact ⟨by omega, ⟨_, rfl⟩, ⟨_, rfl⟩, rfl, tc⟩
 ·rintro t ⟨tc, z, t9⟩
  simp only [go_sem, ↓reduceIte, Nat.reduceEqDiff, reduceCtorEq, Nat.reduceAdd, Nat.reduceLeDiff, Nat.reduceMul, t9]
  exact ⟨z, rfl, hc.trans (tc.trim hid)⟩
def KsR (H : Hp) (r : Value) (H' : Hp) : Prop := ∃ K, H <+: H' ∧ Bu H' r K ∧ Ao H.length r ∧ K.length ≤ 1000000000
theorem xH {m : Md} {H : Hp} {vt vk : Value} {T : List ByteArray} {K : List Int} (hT : Dz H vt T) (hK : Bu H vk K) (hz : ∀ z ∈ T, z.size ≤ 4611686018427387904) (hw : Wr m H) : Ci EE m 189 [.agg #[vt, vk]] H fun r H' => KsR H r H' := by
 refine Bt rfl rfl Aa1 (by simp [fW]) ?_
 have V1 := hT.vc
 have V2 := hK.vc
 have a56 := Ax (rF hT hK hz)
 simp only [go_sem, ↓reduceIte, Nat.reduceEqDiff, reduceCtorEq, Nat.reduceAdd, Nat.reduceLeDiff, Nat.reduceMul, fW, V1, V2, a56, hw]
 cases q1 : Im T K <;> simp only [go_sem, ↓reduceIte, Nat.reduceEqDiff, reduceCtorEq, Nat.reduceAdd, Nat.reduceLeDiff, Nat.reduceMul, V1, V2]
 ·exact ⟨[], Eg, Eb, .inr ⟨_, _, _, _, rfl, Nat.le_refl _⟩, Nat.zero_le _⟩
 refine Aa (fun m' h => pB hT hK (S0 q1) h) rfl hw fun r1 H1 ⟨tv, kv, T', K', e1, p1, s1, s2, g1, g2, g3, g4⟩ => ?_
 subst e1
 have hc := oG
 simp only [go_sem, ↓reduceIte, Nat.reduceEqDiff, reduceCtorEq, Nat.reduceAdd, Nat.reduceLeDiff, Nat.reduceMul, List.getElem?_toArray, Bd]
 exact ⟨K', p1, s2, g4, by omega⟩
theorem qD {m : Md} {κ : Nat → Nat} {H0 H : Hp} {w : Wd} {f : Rf} {c : Value} {id : Nat} (q : He κ H w f) (hi : Pe w) (hk : κ id = 99) (hc : CX H0 H c id) (hw0 : Wr m H) (hw : m.wr id = true) : Ci EE m 168 [c, Mv w f] H fun r H' => yU H0 c id 1000 r H' := by
 have hid := hc.1.lt
 refine Hi rfl rfl Aa7 (by simp [gD]) fun m' hm => ?_
 have hw : m'.wr id = true := (hm id).trans hw
 have hw0 : Wr m' H := fun j hj => (hm j).trans (hw0 j hj)
 have hwx : ∀ {H' : Hp}, CX H H' c id → Wr m' H' := fun h j hj => hw0 j (C8 h.2.2 hj)
 have V := q.vcs
 have qt := q.t (by decide)
 have qk := q.k (by decide)
 have qn := q.n (by decide)
 simp only [go_sem, ↓reduceIte, Nat.reduceEqDiff, reduceCtorEq, Nat.reduceAdd, Nat.reduceLeDiff, Nat.reduceMul, gD, V]
 refine Aa (fun m' h => xH qt.1 qk.1 (fun z hz => C8 (hi.tms z hz) (by decide)) h) rfl hw0 fun r1 H1 ⟨K, p1, s1, o1, n1⟩ => ?_
 have p1 : H <+: H1 := p1
 have o1 : Ao H.length r1 := o1
 have h1 := CX.ofPre hc.1 p1
 simp only [go_sem, ↓reduceIte, Nat.reduceEqDiff, reduceCtorEq, Nat.reduceAdd, Nat.reduceLeDiff, Nat.reduceMul, V]
 have hr1 : id ∉ Ae r1 := fun hm => by have := Bc o1 id hm; omega
 refine Aq (Cs (CX.refl h1.1) hw) rfl fun r H2 ⟨x2, e, _, _, g2⟩ => ?_
 subst e
 have h2 := h1.trans g2
 have s2 := s1.cx g2 hr1
 simp only [go_sem, ↓reduceIte, Nat.reduceEqDiff, reduceCtorEq, Nat.reduceAdd, Nat.reduceLeDiff, Nat.reduceMul, V, s2.len]
 refine Bq (fun t => CX H t.H c id ∧ t.ρ 0 = .val c ∧ (∃ g, t.ρ 3 = .bx g (M4 w f)) ∧ ∃ k, t.ρ 6 = .val (.int .i64 k)) (fun qa => ?_) (fun qa => ?_) ?_
 ·simp only [go_sem, ↓reduceIte, Nat.reduceEqDiff, reduceCtorEq, Nat.reduceAdd, Nat.reduceLeDiff, Nat.reduceMul, s2.len]
  refine Aq (Cs (CX.refl h2.1) hw) rfl fun r H3 ⟨y, e, y0, y1, g3⟩ => ?_
  subst e
  obtain ⟨x, i2, p2, o2, hx, ho, hr, ha⟩ := (s2.cx g3 hr1).intI (n := y) y0 (y1 (by have := As qa; omega))
  simp only [go_sem, ↓reduceIte, Nat.reduceEqDiff, reduceCtorEq, Nat.reduceAdd, Nat.reduceLeDiff, Nat.reduceMul, ha, ho, hr]
  exact ⟨h2.trans g3, ⟨_, rfl⟩, _, rfl⟩
 ·simp only [go_sem, ↓reduceIte, Nat.reduceEqDiff, reduceCtorEq, Nat.reduceAdd, Nat.reduceLeDiff, Nat.reduceMul]
  exact ⟨h2, ⟨_, rfl⟩, _, rfl⟩
 clear s1 s2 g2 h2 h1
 rintro t ⟨tc, t0, ⟨g3, t3⟩, k6, t6⟩
 have a150 := Ax (nF (H := t.H) (x := ⟨#[]⟩) (by decide))
 have qn1 := qn.cx hk (by decide) tc
 have hn : id ∉ Ae f.n := fun hm => absurd (hk.symm.trans (qn.2.1 id hm)) (by decide)
 simp only [go_sem, ↓reduceIte, Nat.reduceEqDiff, reduceCtorEq, Nat.reduceAdd, Nat.reduceLeDiff, Nat.reduceMul, t0, t3, t6, a150, hwx tc, qn1.len]
 refine Bq (fun t => CX H t.H c id ∧ t.ρ 0 = .val c ∧ (∃ g, t.ρ 3 = .bx g (M4 w f)) ∧ t.ρ 6 = .val (.int .i64 k6) ∧ ∃ s : ByteArray, t.ρ 7 = .val (.string s) ∧ s.size ≤ 1000) (fun qa => ?_) (fun qa => ?_) ?_
 ·simp only [go_sem, ↓reduceIte, Nat.reduceEqDiff, reduceCtorEq, Nat.reduceAdd, Nat.reduceLeDiff, Nat.reduceMul]
  refine Af ?_
  simp only [go_sem, ↓reduceIte, Nat.reduceEqDiff, reduceCtorEq, Nat.reduceAdd, Nat.reduceLeDiff, Nat.reduceMul, t0, t3, t6, qn1.len]
  refine Ap rfl (fun m' h hz _ => Cs (CX.refl tc.1) (hz id tc.1.arg hw)) rfl (hwx tc) fun r H2 ⟨y, e, y0, y1, g2⟩ => ?_
  subst e
  have c2 := tc.trans g2
  obtain ⟨tx, i2, p2, o2, hx, ho, hr, ha⟩ := (qn1.cx g2 hn).strI y0 (y1 (by have := As qa; omega))
  have htx := hi.net tx hx
  simp only [go_sem, ↓reduceIte, Nat.reduceEqDiff, reduceCtorEq, Nat.reduceAdd, Nat.reduceLeDiff, Nat.reduceMul, t0, t3, t6, ha, ho, hr]
  refine Aa (fun m' h => Rl (s := tx) (by omega) h) rfl (hwx c2) fun r H3 ⟨wv, e, p3, sp, op⟩ => ?_
  subst e
  have p3 : H2 <+: H3 := p3
  have op : Ao H2.length wv := op
  have c3 := c2.trans (CX.ofPre c2.1 p3)
  have hwv : id ∉ Ae wv := fun hm => by have := Bc op id hm; have := c2.2.2; omega
  generalize hps : (A5 tx).getD [] = ps at sp
  simp only [go_sem, ↓reduceIte, Nat.reduceEqDiff, reduceCtorEq, Nat.reduceAdd, Nat.reduceLeDiff, Nat.reduceMul, List.getElem?_toArray, Bd, t0, t3, t6]
  refine ⟨by rfl, ?_⟩
  simp only [go_sem, ↓reduceIte, Nat.reduceEqDiff, reduceCtorEq, Nat.reduceAdd, Nat.reduceLeDiff, Nat.reduceMul, t0, t3, t6, sp.len]
  cases qb : decide ((ps.length : Int) > 1) <;> simp only [go_sem, ↓reduceIte, Nat.reduceEqDiff, reduceCtorEq, Nat.reduceAdd, Nat.reduceLeDiff, Nat.reduceMul, t0, t3, t6]
  ·exact ⟨c3, ⟨_, rfl⟩, _, rfl, C8 (Fx _) (by decide)⟩
  have qb := As qb
  have lr := sp.room
  unfold Ev.room at lr
  have w1 := Ab ((ps.length : Int) - 1) (by omega) (by omega)
  simp only [go_sem, ↓reduceIte, Nat.reduceEqDiff, reduceCtorEq, Nat.reduceAdd, Nat.reduceLeDiff, Nat.reduceMul, t0, t3, t6, sp.len, w1]
  refine Aq (Cs (CX.refl c3.1) hw) rfl fun r H4 ⟨y, e, y0, y1, g4⟩ => ?_
  subst e
  have y1 := y1 (by omega)
  have w2 := Ab (1 + y) (by omega) (by omega)
  obtain ⟨ty, i2, p2, o2, hx, ho, hr, ha⟩ := (sp.cx g4 hwv).strI (n := 1 + y) (by omega) (by omega)
  have hty := (Qs (s := tx) (p := ty) (by rw [hps]; exact hx)).1
  simp only [go_sem, ↓reduceIte, Nat.reduceEqDiff, reduceCtorEq, Nat.reduceAdd, Nat.reduceLeDiff, Nat.reduceMul, t0, t3, t6, w2, ha, ho, hr]
  exact ⟨c3.trans g4, ⟨_, rfl⟩, _, rfl, by omega⟩
 ·simp only [go_sem, ↓reduceIte, Nat.reduceEqDiff, reduceCtorEq, Nat.reduceAdd, Nat.reduceLeDiff, Nat.reduceMul, t0, t3, t6]
  exact ⟨tc, ⟨_, rfl⟩, _, rfl, C8 (Fx _) (by decide)⟩
 clear t0 t3 t6 tc qn1 a150
 rintro t ⟨tc, t0, ⟨g3, t3⟩, t6, s7, t7, z7⟩
 simp only [go_sem, ↓reduceIte, Nat.reduceEqDiff, reduceCtorEq, Nat.reduceAdd, Nat.reduceLeDiff, Nat.reduceMul, t0, t3, t6, t7]
 refine Aq (Cs (CX.refl tc.1) hw) rfl fun r H2 ⟨x10, e, y0, y1, g2⟩ => ?_
 subst e
 have y1 := y1 (by omega)
 have c2 := tc.trans g2
 simp only [go_sem, ↓reduceIte, Nat.reduceEqDiff, reduceCtorEq, Nat.reduceAdd, Nat.reduceLeDiff, Nat.reduceMul, t0, t3, t6, t7]
 refine Aq (Cs (CX.refl c2.1) hw) rfl fun r H3 ⟨x11, e, _, _, g3⟩ => ?_
 subst e
 have c3 := c2.trans g3
 simp only [go_sem, ↓reduceIte, Nat.reduceEqDiff, reduceCtorEq, Nat.reduceAdd, Nat.reduceLeDiff, Nat.reduceMul, t0, t3, t6, t7]
 refine Af ?_
 simp only [go_sem, ↓reduceIte, Nat.reduceEqDiff, reduceCtorEq, Nat.reduceAdd, Nat.reduceLeDiff, Nat.reduceMul, t0, t3, t6, t7]
 refine Ap rfl (fun m' h hz _ => Cs (CX.refl c3.1) (hz id c3.1.arg hw)) rfl (hwx c3) fun r H4 ⟨x71, e, _, _, g4⟩ => ?_
 subst e
 have c4 := c3.trans g4
 simp only [go_sem, ↓reduceIte, Nat.reduceEqDiff, reduceCtorEq, Nat.reduceAdd, Nat.reduceLeDiff, Nat.reduceMul, t0, t3, t6, t7]
 have p4 : H4 <+: H4 ++ [[.int .i64 (IntKind.i64.wrap (10 + x10)), .int .i64 (IntKind.i64.wrap (10 + x10)), .int .i64 x71]] := Eg
 refine Ap rfl (fun m' h hz _ => Ku [IntKind.i64.wrap (10 + x10), IntKind.i64.wrap (10 + x10), x71] c4 hid (hz id c4.1.arg hw) (by simp) (by simp)) rfl ((hwx c4).pre p4) fun r H5 ⟨x73, _, e, c5⟩ => ?_
 subst e
 simp only [go_sem, ↓reduceIte, Nat.reduceEqDiff, reduceCtorEq, Nat.reduceAdd, Nat.reduceLeDiff, Nat.reduceMul, t0, t3, t6, t7]
 refine Aa (fun m' h => Qd (k := k6) Bl Bl m' h) rfl (hwx c5) fun r H6 ⟨⟨s12, e1, z12⟩, e2⟩ => ?_
 subst e1
 have e2 : H6 = H5 := e2
 subst e2
 simp only [go_sem, ↓reduceIte, Nat.reduceEqDiff, reduceCtorEq, Nat.reduceAdd, Nat.reduceLeDiff, Nat.reduceMul, t0, t3, t6, t7]
 refine ⟨by rfl, ?_⟩
 refine Aq (Hd c5 hw) rfl fun r H7 ⟨b83, e, c7⟩ => ?_
 subst e
 simp only [go_sem, ↓reduceIte, Nat.reduceEqDiff, reduceCtorEq, Nat.reduceAdd, Nat.reduceLeDiff, Nat.reduceMul, t0, t3, t6, t7]
 refine Bq (fun t => CX H t.H c id ∧ t.ρ 0 = .val c ∧ (∃ g, t.ρ 3 = .bx g (M4 w f)) ∧ t.ρ 6 = .val (.int .i64 k6) ∧ t.ρ 7 = .val (.string s7) ∧ t.ρ 11 = .val (.int .i64 x11) ∧ ∃ s : ByteArray, t.ρ 12 = .val (.string s) ∧ s.size ≤ 1000) (fun qa => ?_) (fun qa => ?_) ?_
 ·simp only [go_sem, ↓reduceIte, Nat.reduceEqDiff, reduceCtorEq, Nat.reduceAdd, Nat.reduceLeDiff, Nat.reduceMul, t0, t3, t6, t7]
  exact ⟨c7, ⟨_, rfl⟩, _, rfl, z7⟩
 ·simp only [go_sem, ↓reduceIte, Nat.reduceEqDiff, reduceCtorEq, Nat.reduceAdd, Nat.reduceLeDiff, Nat.reduceMul, t0, t3, t6, t7]
  exact ⟨c7, ⟨_, rfl⟩, _, rfl, by omega⟩
 clear t0 t3 t6 t7 tc
 rintro t ⟨tc, t0, ⟨g3, t3⟩, t6, t7, t11, s12, t12, z12⟩
 simp only [go_sem, ↓reduceIte, Nat.reduceEqDiff, reduceCtorEq, Nat.reduceAdd, Nat.reduceLeDiff, Nat.reduceMul, t0, t3, t6, t7, t11, t12]
 refine Af ?_
 simp only [go_sem, ↓reduceIte, Nat.reduceEqDiff, reduceCtorEq, Nat.reduceAdd, Nat.reduceLeDiff, Nat.reduceMul, t0, t3, t6, t7, t11, t12]
 refine Ap rfl (fun m' h hz _ => Cs (CX.refl tc.1) (hz id tc.1.arg hw)) rfl (hwx tc) fun r H2 ⟨x89, e, _, _, g2⟩ => ?_
 subst e
 have c2 := tc.trans g2
 simp only [go_sem, ↓reduceIte, Nat.reduceEqDiff, reduceCtorEq, Nat.reduceAdd, Nat.reduceLeDiff, Nat.reduceMul, t0, t3, t6, t7, t11, t12]
 refine ⟨by rfl, ?_⟩
 refine Aq (Cs (CX.refl c2.1) hw) rfl fun r H3 ⟨x92, e, _, _, g3⟩ => ?_
 subst e
 have c3 := c2.trans g3
 have fin : ∀ {H' : Hp} {s : ByteArray}, CX H H' c id → s.size ≤ 1000 → yU H0 c id 1000 (.string s) (H'.take H.length) := fun h hs => ⟨_, rfl, hs, hc.trans (h.trim hid)⟩
 simp only [go_sem, ↓reduceIte, Nat.reduceEqDiff, reduceCtorEq, Nat.reduceAdd, Nat.reduceLeDiff, Nat.reduceMul, t0, t3, t6, t7, t11, t12]
 cases q0 : decide (x92 = 0) <;> simp only [go_sem, ↓reduceIte, Nat.reduceEqDiff, reduceCtorEq, Nat.reduceAdd, Nat.reduceLeDiff, Nat.reduceMul, t0, t3, t6, t7, t11, t12]
 rotate_left
 ·refine Af ?_
  simp only [go_sem, ↓reduceIte, Nat.reduceEqDiff, reduceCtorEq, Nat.reduceAdd, Nat.reduceLeDiff, Nat.reduceMul, t0, t3, t6, t7, t11, t12]
  refine Ap rfl (fun m' h hz _ => Cs (CX.refl c3.1) (hz id c3.1.arg hw)) rfl (hwx c3) fun r H4 ⟨x99, e, _, _, g4⟩ => ?_
  subst e
  have c4 := c3.trans g4
  simp only [go_sem, ↓reduceIte, Nat.reduceEqDiff, reduceCtorEq, Nat.reduceAdd, Nat.reduceLeDiff, Nat.reduceMul, t0, t3, t6, t7, t11, t12]
  refine Aa (fun m' h => oC (x := (x11, w.now, x89)) (y := (7, 255, IntKind.i64.wrap (w.now + 30))) (by omega) (by decide) m' h) rfl (hwx c4) fun r H5 ⟨⟨s, e1, zs⟩, e2⟩ => ?_
  subst e1
  have e2 : H5 = H4 := e2
  subst e2
  simp only [go_sem, ↓reduceIte, Nat.reduceEqDiff, reduceCtorEq, Nat.reduceAdd, Nat.reduceLeDiff, Nat.reduceMul, t0, t3, t6, t7, t11, t12]
  refine ⟨by rfl, ?_⟩
  exact fin c4 (by omega)
 cases q1 : decide (x92 = 1) <;> simp only [go_sem, ↓reduceIte, Nat.reduceEqDiff, reduceCtorEq, Nat.reduceAdd, Nat.reduceLeDiff, Nat.reduceMul, t0, t3, t6, t7, t11, t12]
 rotate_left
 ·refine Aa (fun m' h => qE m' h) rfl (hwx c3) fun r H5 ⟨⟨s, e1, zs⟩, e2⟩ => ?_
  subst e1
  have e2 : H5 = H3 := e2
  subst e2
  simp only [go_sem, ↓reduceIte, Nat.reduceEqDiff, reduceCtorEq, Nat.reduceAdd, Nat.reduceLeDiff, Nat.reduceMul, t0, t3, t6, t7, t11, t12]
  exact fin c3 (by omega)
 cases q2 : decide (x92 = 2) <;> simp only [go_sem, ↓reduceIte, Nat.reduceEqDiff, reduceCtorEq, Nat.reduceAdd, Nat.reduceLeDiff, Nat.reduceMul, t0, t3, t6, t7, t11, t12]
 rotate_left
 ·refine Af ?_
  simp only [go_sem, ↓reduceIte, Nat.reduceEqDiff, reduceCtorEq, Nat.reduceAdd, Nat.reduceLeDiff, Nat.reduceMul, t0, t3, t6, t7, t11, t12]
  refine Ap rfl (fun m' h hz _ => Cs (CX.refl c3.1) (hz id c3.1.arg hw)) rfl (hwx c3) fun r H4 ⟨x4, e, _, _, g4⟩ => ?_
  subst e
  have c4 := c3.trans g4
  simp only [go_sem, ↓reduceIte, Nat.reduceEqDiff, reduceCtorEq, Nat.reduceAdd, Nat.reduceLeDiff, Nat.reduceMul, t0, t3, t6, t7, t11, t12]
  refine Ap rfl (fun m' h hz _ => Cs (CX.refl c4.1) (hz id c4.1.arg hw)) rfl (hwx c4) fun r H5 ⟨x5, e, _, _, g5⟩ => ?_
  subst e
  have c5 := c4.trans g5
  have p5 : H5 <+: H5 ++ [[.int .i64 4, .int .i64 x4, .int .i64 x5]] := Eg
  have s5 : Bu (H5 ++ [[.int .i64 4, .int .i64 x4, .int .i64 x5]]) (.slice (some ⟨H5.length, 0, some 1⟩) 3 3) [4, x4, x5] := I5 rfl rfl (by simp)
  simp only [go_sem, ↓reduceIte, Nat.reduceEqDiff, reduceCtorEq, Nat.reduceAdd, Nat.reduceLeDiff, Nat.reduceMul, t0, t3, t6, t7, t11, t12]
  have c6 := c5.trans (CX.ofPre c5.1 p5)
  refine Aa (fun m' h => Mk s5 m' h) rfl (hwx c6) fun r H6 ⟨e1, e2⟩ => ?_
  subst e1
  have e2 : H6 = _ := e2
  simp only [go_sem, ↓reduceIte, Nat.reduceEqDiff, reduceCtorEq, Nat.reduceAdd, Nat.reduceLeDiff, Nat.reduceMul, t0, t3, t6, t7, t11, t12]
  refine Aa (fun m' h => hM (x := (x11, w.now, x89)) (k := k6) m' h) rfl (e2 ▸ hwx c6) fun r H7 ⟨e3, e4⟩ => ?_
  subst e3
  have e4 : H7 = H6 := e4
  subst e4
  simp only [go_sem, ↓reduceIte, Nat.reduceEqDiff, reduceCtorEq, Nat.reduceAdd, Nat.reduceLeDiff, Nat.reduceMul, t0, t3, t6, t7, t11, t12]
  have s7 : Dz (H7 ++ [[.string (Ay [4, x4, x5]), .string s12, .string (T9 (x11, w.now, x89) k6)]]) (.slice (some ⟨H7.length, 0, some 1⟩) 3 3) [Ay [4, x4, x5], s12, T9 (x11, w.now, x89) k6] := Ml rfl rfl (by simp)
  have c7 : CX H H7 c id := e2 ▸ c6
  have c8 := c7.trans (CX.ofPre c7.1 (List.prefix_append H7 [[.string (Ay [4, x4, x5]), .string s12, .string (T9 (x11, w.now, x89) k6)]]))
  refine Aa (fun m' h => Lo s7 (rM (Vh (B2 _)) (by omega) (Vh (O6 _ _))) m' h) rfl (hwx c8) fun r H8 ⟨e5, e6⟩ => ?_
  subst e5
  have e6 : H8 = _ := e6
  simp only [go_sem, ↓reduceIte, Nat.reduceEqDiff, reduceCtorEq, Nat.reduceAdd, Nat.reduceLeDiff, Nat.reduceMul, t0, t3, t6, t7, t11, t12]
  refine ⟨by rfl, ?_⟩
  exact fin (e6 ▸ c8) (C8 (Cp _) (by decide))
 refine Aq (Cs (CX.refl c3.1) hw) rfl fun r H5 ⟨x5, e, _, _, g5⟩ => ?_
 subst e
 have c5 := c3.trans g5
 have p5 : H5 <+: H5 ++ [[.int .i64 4, .int .i64 x5, .int .i64 1]] := Eg
 have s5 : Bu (H5 ++ [[.int .i64 4, .int .i64 x5, .int .i64 1]]) (.slice (some ⟨H5.length, 0, some 1⟩) 3 3) [4, x5, 1] := I5 rfl rfl (by simp)
 have c6 := c5.trans (CX.ofPre c5.1 p5)
 simp only [go_sem, ↓reduceIte, Nat.reduceEqDiff, reduceCtorEq, Nat.reduceAdd, Nat.reduceLeDiff, Nat.reduceMul, t0, t3, t6, t7, t11, t12]
 refine Aa (fun m' h => Mk s5 m' h) rfl (hwx c6) fun r H6 ⟨e1, e2⟩ => ?_
 subst e1
 have e2 : H6 = _ := e2
 simp only [go_sem, ↓reduceIte, Nat.reduceEqDiff, reduceCtorEq, Nat.reduceAdd, Nat.reduceLeDiff, Nat.reduceMul, t0, t3, t6, t7, t11, t12]
 have s8 : Dz (H6 ++ [[.string (Ay [4, x5, 1]), .string s7, .string s7]]) (.slice (some ⟨H6.length, 0, some 1⟩) 3 3) [Ay [4, x5, 1], s7, s7] := Ml rfl rfl (by simp)
 have c7 : CX H H6 c id := e2 ▸ c6
 have c8 := c7.trans (CX.ofPre c7.1 (List.prefix_append H6 [[.string (Ay [4, x5, 1]), .string s7, .string s7]]))
 refine Aa (fun m' h => Lo s8 (rM (Vh (B2 _)) (by omega) (by omega)) m' h) rfl (hwx c8) fun r H8 ⟨e5, e6⟩ => ?_
 subst e5
 have e6 : H8 = _ := e6
 simp only [go_sem, ↓reduceIte, Nat.reduceEqDiff, reduceCtorEq, Nat.reduceAdd, Nat.reduceLeDiff, Nat.reduceMul, t0, t3, t6, t7, t11, t12]
 exact fin (e6 ▸ c8) (C8 (Cp _) (by decide))
end Go.Proofs.YtglboiahgpfjdaaGreat.Ev
