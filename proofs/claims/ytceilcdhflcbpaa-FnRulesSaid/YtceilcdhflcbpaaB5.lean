/- Texts of this proof, laid one behind the other: what each shows stands at its head. -/
import Derived.Test.YtceilcdhflcbpaaB3
import Derived.Test.YtceilcdhflcbpaaB4
/- slices.Compact and the program's 'risen'. -/
namespace Go.Proofs.Ytceilcdhflcbpaa.Ev
set_option linter.all false
open Go
set_option maxRecDepth 4000

theorem rsn_to {l k : List Int} (h : Asc k) (hm : ∀ x, x ∈ k ↔ x ∈ l) : k = rsn l := h.eq (rsn_asc l) fun x => (hm x).trans (rsn_mem l x).symm
theorem own_newI {H : Hp} : SlI (H ++ [[]]) (.slice (some ⟨H.length, 0, some 1⟩) 0 (0 * 1)) [] := .inr ⟨H.length, 0, 0, [], rfl, by simp, by simp, by simp, by simp, fun i a hi => by simp at hi⟩
theorem Sl.oneI {m : Md} {N : Nat} {H : Hp} {v : Value} {l : List Int} (a : Int) (h : SlI H v l) (ho : OwnS N v) (hN : N ≤ H.length) (hw : ∀ id, N ≤ id → m.wr id = true) (hb : l.length ≤ 1048576) :
    ∃ v' H', (∀ (s : St) (x y : X), s.H = H → exv s.ρ x = some v → ex s.ρ y = .vs 1 [.int .i64 a] → appK m s 1 8 x y = some (.val v', { s with H := H' })) ∧ SlI H' v' (l ++ [a]) ∧ OwnS N v' ∧
      (∀ j, j < H.length → j ∉ idsOf v → H'[j]? = H[j]?) ∧ H.length ≤ H'.length ∧ (∀ j ∈ idsOf v', j ∈ idsOf v ∨ H.length ≤ j) ∧ ∀ H0 : Hp, H0.length ≤ N → H0 <+: H → H0 <+: H' := by
  obtain ⟨v', H', h1, h2⟩ := h.app (m := m) (n := 1) (bytes := 8) (l2 := [a]) (cs := [.int .i64 a]) ho hN hw (fun _ => rfl) (by simp) rfl (fun i b hi => by
    cases i with
    | zero => simp at hi; subst hi; rfl
    | succ i => simp at hi) (by unfold Ev.room; simp; omega) (by unfold Ev.room; simp; omega)
  exact ⟨v', H', fun s x y hH hx hy => h1 s x y hH hx (by rw [hy]; rfl), h2⟩
theorem Sl.aside {α : Type} {R : α → List Value → Prop} {esz : Nat} {H H' : Hp} {v w : Value} {l : List α} (h : Sl R esz H v l) (hd : ∀ j ∈ idsOf v, j ∉ idsOf w) (hf : ∀ j, j < H.length → j ∉ idsOf w → H'[j]? = H[j]?) : Sl R esz H' v l :=
  have hi := h.ids
  h.frame (fun _ _ _ h => h) fun i off e ln cap hv => hf i (hi i (by subst hv; simp [idsOf])) (hd i (by subst hv; simp [idsOf]))
theorem f81 {m : Md} {H : Hp} {v : Value} {l : List Int} (hl : SlI H v l) (hle : l.length ≤ 1048576) (hw : Wr m H) : Fun EE m 81 [v] H fun r H' => FreshS eI 1 H r H' l := by
  refine fun_f rfl rfl k81 (by simp [c81]) ?_
  obtain ⟨v', H', h1, h2, h3, h4⟩ := hl.copy (m := m) (bytes := 8) (by unfold room; omega) (by unfold room; omega)
  simp only [go_sem, ↓reduceIte, Nat.reduceEqDiff, reduceCtorEq, Nat.reduceAdd, Nat.reduceLeDiff, Nat.reduceMul, c81]
  rw [h1 _ _ _ rfl rfl rfl]
  simp only [go_sem, ↓reduceIte, Nat.reduceEqDiff, reduceCtorEq, Nat.reduceAdd, Nat.reduceLeDiff, Nat.reduceMul]
  exact ⟨h2, h3, h4⟩
def Cmp (H : Hp) (v : Value) (l : List Int) (r : Value) (H' : Hp) : Prop := SlI H' r l ∧ (∀ N, OwnS N v → OwnS N r) ∧ (∀ j, j ∉ idsOf v → H'[j]? = H[j]?) ∧ H'.length = H.length ∧ ∀ j ∈ idsOf r, j ∈ idsOf v

theorem Cmp.same {H : Hp} {v : Value} {l : List Int} (h : SlI H v l) : Cmp H v l v H := ⟨h, fun _ h => h, fun _ _ => rfl, rfl, fun _ h => h⟩

theorem cmpL_two {l : List Int} (h : l.length < 2) : cmpL l = l := by
  match l, h with
  | [], _ => rfl
  | [a], _ => rfl

theorem f100 {m : Md} {H : Hp} {v : Value} {l : List Int} (hl : SlI H v l) (hle : l.length ≤ 1048576) (hw : ∀ id ∈ idsOf v, m.wr id = true) : Fun EE m 100 [v] H fun r H' => Cmp H v (cmpL l) r H' := by
  refine fun_f rfl rfl k100 (by simp [c100]) ?_
  simp only [go_sem, ↓reduceIte, Nat.reduceEqDiff, reduceCtorEq, Nat.reduceAdd, Nat.reduceLeDiff, Nat.reduceMul, c100, hl.len]
  refine brT.intro (fun q1 => ?_) (fun q1 => ?_) <;> simp only [go_sem, ↓reduceIte, Nat.reduceEqDiff, reduceCtorEq, Nat.reduceAdd, Nat.reduceLeDiff, Nat.reduceMul]
  · have : l.length < 2 := by have := of_decide_eq_true q1; omega
    rw [cmpL_two this]
    exact Cmp.same hl
  have hl2 : ¬ l.length < 2 := by have := of_decide_eq_false q1; omega
  refine go_for (l.length - 1) (fun i s => s.H = H ∧ s.ρ 0 = .val v ∧ s.ρ 3 = .val (.int .i64 ((i + 1 : Nat) : Int)) ∧ cmpL (l.take (i + 1)) = l.take (i + 1))
    (fun s => s.H = H ∧ s.ρ 0 = .val v ∧ cmpL l = l) ?_ ?_ ?_
  · refine ⟨rfl, by simp [upd, ini], by simp [upd], ?_⟩
    exact cmpL_two (by simp; omega)
  · rintro i s hi ⟨hH, h0, h3, hc⟩
    simp only [go_sem, ↓reduceIte, Nat.reduceEqDiff, reduceCtorEq, Nat.reduceAdd, Nat.reduceLeDiff, Nat.reduceMul, h0, h3, hl.len]
    refine brT.intro (fun c1 => ?_) (fun c1 => ?_) <;> simp only [go_sem, ↓reduceIte, Nat.reduceEqDiff, reduceCtorEq, Nat.reduceAdd, Nat.reduceLeDiff, Nat.reduceMul, h0, h3]
    · have hi2 : i + 1 < l.length := by have := of_decide_eq_true c1; omega
      obtain ⟨id, p, o, ho, hr, hia⟩ := hl.int (List.getElem?_eq_getElem hi2)
      obtain ⟨id', p', o', ho', hr', hia'⟩ := hl.int (List.getElem?_eq_getElem (show i < l.length by omega))
      have hsub : IntKind.i64.wrap (((i + 1 : Nat) : Int) - 1) = (i : Int) := by rw [wrap64 _ (by omega) (by omega)]; omega
      refine go_draw ?_
      simp only [go_sem, ↓reduceIte, Nat.reduceEqDiff, reduceCtorEq, Nat.reduceAdd, Nat.reduceLeDiff, Nat.reduceMul, h0, h3, hia, hH, ho, hr, hsub, hia', ho', hr']
      refine ⟨by rfl, ?_⟩
      refine brT.intro (fun c2 => ?_) (fun c2 => ?_) <;> simp only [go_sem, ↓reduceIte, Nat.reduceEqDiff, reduceCtorEq, Nat.reduceAdd, Nat.reduceLeDiff, Nat.reduceMul, h0, h3, hH]
      · have heq : l[i + 1] = l[i] := of_decide_eq_true c2
        obtain ⟨v4, d1, d2, d3⟩ := hl.drop (i := i + 1) (by omega)
        rw [d1]
        rotate_left
        · rfl
        · rfl
        simp only [go_sem, ↓reduceIte, Nat.reduceEqDiff, reduceCtorEq, Nat.reduceAdd, Nat.reduceLeDiff, Nat.reduceMul, h0, h3, hH]
        have hcl : cmpL (l.take (i + 2)) = l.take (i + 1) := by
          rw [cmpL_take hi2, if_pos heq.symm, hc]
        refine go_for (l.length - (i + 1) - 1) (fun j s' => s'.ρ 0 = .val v ∧ s'.ρ 4 = .val v4 ∧ s'.ρ 5 = .val (.int .i64 ((j + 1 : Nat) : Int)) ∧ ∃ (k : Nat) (L : List Int), s'.ρ 3 = .val (.int .i64 k) ∧ SlI s'.H v L ∧ L.length = l.length ∧ k ≤ i + 1 + j ∧ L.take k = cmpL (l.take (i + 1 + j + 1)) ∧ L.drop (i + 1 + j) = l.drop (i + 1 + j) ∧ (∀ j, j ∉ idsOf v → s'.H[j]? = H[j]?) ∧ s'.H.length = H.length)
          (fun s' => s'.ρ 0 = .val v ∧ ∃ (k : Nat) (L : List Int), s'.ρ 3 = .val (.int .i64 k) ∧ SlI s'.H v L ∧ L.length = l.length ∧ k ≤ l.length ∧ L.take k = cmpL l ∧ (∀ j, j ∉ idsOf v → s'.H[j]? = H[j]?) ∧ s'.H.length = H.length) ?_ ?_ ?_
        · exact ⟨by simp [upd, h0], by simp [upd], by simp [upd], i + 1, l, by simp [upd, h3], hl, rfl, by omega, by rw [show i + 1 + 0 + 1 = i + 2 by omega, hcl], rfl, fun _ _ => rfl, rfl⟩
        · rintro j s' hj ⟨k0, k4, k5, k, L, k3, ks, kL, kk, kt, kd, kf, kn⟩
          have k4s := d3 _ _ kL ks
          have hlen4 : (L.drop (i + 1)).length = l.length - (i + 1) := by simp [kL]
          simp only [go_sem, ↓reduceIte, Nat.reduceEqDiff, reduceCtorEq, Nat.reduceAdd, Nat.reduceLeDiff, Nat.reduceMul, k0, k3, k4, k5, k4s.len, hlen4]
          refine brT.intro (fun e1 => ?_) (fun e1 => ?_) <;> simp only [go_sem, ↓reduceIte, Nat.reduceEqDiff, reduceCtorEq, Nat.reduceAdd, Nat.reduceLeDiff, Nat.reduceMul, k0, k3, k4, k5]
          · have hj2 : i + 1 + j + 1 < l.length := by have := of_decide_eq_true e1; omega
            have g1 : (L.drop (i + 1))[j + 1]? = some l[i + 1 + j + 1] := by
              have := congrArg (fun (x : List Int) => x[1]?) kd
              simp only [List.getElem?_drop] at this
              rw [List.getElem?_drop, show i + 1 + (j + 1) = i + 1 + j + 1 by omega, this, List.getElem?_eq_getElem hj2]
            have g0 : (L.drop (i + 1))[j]? = some l[i + 1 + j] := by
              have := congrArg (fun (x : List Int) => x[0]?) kd
              simp only [List.getElem?_drop, Nat.add_zero] at this
              rw [List.getElem?_drop, this, List.getElem?_eq_getElem (by omega)]
            obtain ⟨ida, pa, oa, hoa, hra, hiaa⟩ := k4s.int g1
            obtain ⟨idb, pb, ob, hob, hrb, hiab⟩ := k4s.int g0
            have hsub : IntKind.i64.wrap (((j + 1 : Nat) : Int) - 1) = (j : Int) := by rw [wrap64 _ (by omega) (by omega)]; omega
            have hct := cmpL_take (l := l) (k := i + 1 + j) hj2
            have kd' : L.drop (i + 1 + (j + 1)) = l.drop (i + 1 + (j + 1)) := by
              have := congrArg (List.drop 1) kd
              simpa [List.drop_drop, Nat.add_assoc] using this
            refine go_draw ?_
            simp only [go_sem, ↓reduceIte, Nat.reduceEqDiff, reduceCtorEq, Nat.reduceAdd, Nat.reduceLeDiff, Nat.reduceMul, k0, k3, k4, k5, hiaa, hoa, hra, hsub, hiab, hob, hrb]
            refine ⟨by rfl, ?_⟩
            refine brT.intro (fun e2 => ?_) (fun e2 => ?_) <;> simp only [go_sem, ↓reduceIte, Nat.reduceEqDiff, reduceCtorEq, Nat.reduceAdd, Nat.reduceLeDiff, Nat.reduceMul, k0, k3, k4, k5, wrap64 (((j + 1 : Nat) : Int) + 1) (by omega) (by omega)]
            · have heq2 : l[i + 1 + j] = l[i + 1 + j + 1] := (of_decide_eq_true e2).symm
              exact ⟨by omega, by simp, k, L, rfl, ks, kL, by omega, by rw [kt, show i + 1 + (j + 1) + 1 = i + 1 + j + 2 by omega, hct, if_pos heq2], kd', kf, kn⟩
            · have hne2 : ¬ l[i + 1 + j] = l[i + 1 + j + 1] := fun e => of_decide_eq_false e2 e.symm
              obtain ⟨idc, pc, oc, hoc, hpc, hidc, hiac, hst⟩ := ks.store (i := k) (by omega)
              have hwid := hw idc (by rw [hidc]; simp)
              simp only [go_sem, ↓reduceIte, Nat.reduceEqDiff, reduceCtorEq, Nat.reduceAdd, Nat.reduceLeDiff, Nat.reduceMul, k0, k3, k4, k5, hiaa, hoa, hra, hiac, hoc, hpc, hwid, wrap64 (((j + 1 : Nat) : Int) + 1) (by omega) (by omega), wrap64 ((k : Int) + 1) (by omega) (by omega)]
              refine ⟨by omega, by simp, k + 1, L.set k l[i + 1 + j + 1], by simp, hst _ _ rfl rfl, by simp [kL], by omega, ?_, ?_, fun q hq => ?_, by simp [kn]⟩
              · rw [show i + 1 + (j + 1) + 1 = i + 1 + j + 2 by omega, hct, if_neg hne2, ← kt]
                refine List.ext_getElem? fun q => ?_
                have hkl : (L.take k).length = k := by rw [List.length_take]; omega
                rcases Nat.lt_trichotomy q k with hq | hq | hq
                · rw [List.getElem?_take, if_pos (by omega), List.getElem?_set_ne (by omega), List.getElem?_append_left (by omega), List.getElem?_take, if_pos hq]
                · subst hq
                  rw [List.getElem?_take, if_pos (by omega), List.getElem?_set_self (by omega), List.getElem?_append_right (by omega), hkl, Nat.sub_self]
                  rfl
                · rw [List.getElem?_take, if_neg (by omega), List.getElem?_eq_none (by simp; omega)]
              · rw [List.drop_set_of_lt (by omega)]
                exact kd'
              · rw [List.getElem?_set_ne]
                · exact kf q hq
                · rw [hidc] at hq
                  simp at hq
                  omega
          · have hj2 : ¬ i + 1 + j + 1 < l.length := by have := of_decide_eq_false e1; omega
            exact ⟨k, L, rfl, ks, kL, by omega, by rw [kt, List.take_of_length_le (by omega)], kf, kn⟩
        · rintro s' ⟨k0, k, L, k3, ks, kL, kk, kt, kf, kn⟩
          obtain ⟨v3, v2, H2, g1, g2, g3, g4, g5, g6, g7, g8⟩ := ks.cut (m := m) (i := k) (by omega) (zero := [.int .i64 0]) rfl rfl hw
          simp only [go_sem, ↓reduceIte, Nat.reduceEqDiff, reduceCtorEq, Nat.reduceAdd, Nat.reduceLeDiff, Nat.reduceMul, k0, k3]
          rw [g1]
          rotate_left
          · rfl
          · rfl
          simp only [go_sem, ↓reduceIte, Nat.reduceEqDiff, reduceCtorEq, Nat.reduceAdd, Nat.reduceLeDiff, Nat.reduceMul, k0, k3]
          rw [g2]
          rotate_left
          · rfl
          · rfl
          simp only [go_sem, ↓reduceIte, Nat.reduceEqDiff, reduceCtorEq, Nat.reduceAdd, Nat.reduceLeDiff, Nat.reduceMul, k0, k3]
          rw [g3]
          rotate_left
          · rfl
          · rfl
          simp only [go_sem, ↓reduceIte, Nat.reduceEqDiff, reduceCtorEq, Nat.reduceAdd, Nat.reduceLeDiff, Nat.reduceMul, k0, k3]
          rw [kt] at g4
          exact ⟨g4, g5, fun q hq => (g6 q hq).trans (kf q hq), g7.trans kn, g8⟩
      · have hne : ¬ l[i] = l[i + 1] := fun e => of_decide_eq_false c2 e.symm
        simp only [go_sem, ↓reduceIte, Nat.reduceEqDiff, reduceCtorEq, Nat.reduceAdd, Nat.reduceLeDiff, Nat.reduceMul, h0, h3, hH, wrap64 (((i + 1 : Nat) : Int) + 1) (by omega) (by omega)]
        refine ⟨by omega, by simp, ?_⟩
        rw [show i + 1 + 1 = i + 2 by omega, cmpL_take hi2, if_neg hne, hc, List.take_succ_eq_append_getElem hi2]
    · have hi2 : ¬ i + 1 < l.length := by have := of_decide_eq_false c1; omega
      rw [List.take_of_length_le (by omega)] at hc
      exact ⟨hH, hc⟩
  · rintro s ⟨hH, h0, hc⟩
    simp only [go_sem, ↓reduceIte, Nat.reduceEqDiff, reduceCtorEq, Nat.reduceAdd, Nat.reduceLeDiff, Nat.reduceMul, h0, hH]
    rw [hc]
    exact Cmp.same hl

/-- 'risen': sorted, each once. -/
theorem f92 {m : Md} {H : Hp} {v : Value} {l : List Int} (hl : SlI H v l) (hle : l.length ≤ 1048576) (hw : ∀ id ∈ idsOf v, m.wr id = true) : Fun EE m 92 [v] H fun r H' => Cmp H v (rsn l) r H' := by
  refine fun_f rfl rfl k92 (by simp [c92]) ?_
  simp only [go_sem, ↓reduceIte, Nat.reduceEqDiff, reduceCtorEq, Nat.reduceAdd, Nat.reduceLeDiff, Nat.reduceMul, c92]
  refine callT_now (Sl.sort (F := 99) rfl hl hle hw) fun r1 H1 ⟨e1, s1, f1, n1⟩ => ?_
  subst e1
  simp only [go_sem, ↓reduceIte, Nat.reduceEqDiff, reduceCtorEq, Nat.reduceAdd, Nat.reduceLeDiff, Nat.reduceMul]
  refine callT_now (f100 s1 (by rw [srt_len]; exact hle) hw) fun r2 H2 ⟨s2, o2, f2, n2, i2⟩ => ?_
  simp only [go_sem, ↓reduceIte, Nat.reduceEqDiff, reduceCtorEq, Nat.reduceAdd, Nat.reduceLeDiff, Nat.reduceMul]
  exact ⟨s2, o2, fun j hj => (f2 j hj).trans (f1 j hj), n2.trans n1, i2⟩
end Go.Proofs.Ytceilcdhflcbpaa.Ev

/- Rules: two of a kind together, both ways. -/
namespace Go.Proofs.Ytceilcdhflcbpaa.Ev
set_option linter.all false
open Go
set_option maxRecDepth 4000

def FreshU (H : Hp) (r : Value) (H' : Hp) (a : Ru) : Prop := ∃ w, r = vRu a w ∧ H <+: H' ∧ SlI H' w a.2.1 ∧ OwnS H.length w
def lsI (a b : Int) : Int := if a < b then a else b
theorem f95 {H : Hp} {a b : Int} : Scal EE 95 [.int .i64 a, .int .i64 b] H (.int .i64 (lsI a b)) := by
  refine scal_ok rfl rfl k95 (by simp [c95]) rfl fun m hw => ?_
  simp only [go_sem, ↓reduceIte, Nat.reduceEqDiff, reduceCtorEq, Nat.reduceAdd, Nat.reduceLeDiff, Nat.reduceMul, c95]
  cases q : decide (a < b) <;> simp only [go_sem, ↓reduceIte, Nat.reduceEqDiff, reduceCtorEq, Nat.reduceAdd, Nat.reduceLeDiff, Nat.reduceMul, q]
  · rw [show lsI a b = b by unfold lsI; rw [if_neg (of_decide_eq_false q)]]
  · rw [show lsI a b = a by unfold lsI; rw [if_pos (of_decide_eq_true q)]]
def inM (k : Int) (A B : List Int) (n : Nat) : Bool := (decide ((n : Int) ∈ A) && decide ((n : Int) ∈ B)) || (decide (k = 3) && (decide ((n : Int) ∈ A) || decide ((n : Int) ∈ B)))
def rowM (k : Int) (A B : List Int) : Nat → List Int
  | 0 => []
  | n + 1 => if inM k A B n = true then rowM k A B n ++ [(n : Int)] else rowM k A B n
theorem rowM_t {k : Int} {A B : List Int} {n : Nat} (h : inM k A B n = true) : rowM k A B (n + 1) = rowM k A B n ++ [(n : Int)] := by rw [rowM, if_pos h]
theorem rowM_f {k : Int} {A B : List Int} {n : Nat} (h : inM k A B n = false) : rowM k A B (n + 1) = rowM k A B n := by rw [rowM, if_neg (by rw [h]; simp)]
theorem rowM_len (k : Int) (A B : List Int) : ∀ n, (rowM k A B n).length ≤ n
  | 0 => Nat.le_refl _
  | n + 1 => by
    have ih := rowM_len k A B n
    unfold rowM
    split
    · simp; omega
    · omega
def meetS (a b : Ru) : Ru := if a.1 ≥ 4 then (a.1, [], lsI a.2.2 b.2.2) else (a.1, rowM a.1 a.2.1 b.2.1 31, 0)
theorem f86 {m : Md} {H : Hp} {w u : Value} {a b : Ru} (ha : SlI H w a.2.1) (hb : SlI H u b.2.1) (hw : Wr m H) : Fun EE m 86 [vRu a w, vRu b u] H fun r H' => FreshU H r H' (meetS a b) := by
  refine fun_f rfl rfl k86 (by simp [c86]) ?_
  have a95 := fun {m draw s d ts Q} => callT_at (m := m) (draw := draw) (s := s) (d := d) (ts := ts) (Q := Q) (f95 (H := H) (a := a.2.2) (b := b.2.2))
  unfold vRu
  simp only [go_sem, ↓reduceIte, Nat.reduceEqDiff, reduceCtorEq, Nat.reduceAdd, Nat.reduceLeDiff, Nat.reduceMul, c86, buildK, fillL, exps, zeros_3]
  cases q1 : decide (a.1 ≥ 4) <;> simp only [go_sem, ↓reduceIte, Nat.reduceEqDiff, reduceCtorEq, Nat.reduceAdd, Nat.reduceLeDiff, Nat.reduceMul, q1, a95, hw]
  rotate_left
  · rw [show meetS a b = (a.1, [], lsI a.2.2 b.2.2) by unfold meetS; rw [if_pos (of_decide_eq_true q1)]]
    exact ⟨.slice none 0 0, rfl, List.prefix_refl _, .inl ⟨rfl, rfl⟩, .inl rfl⟩
  have q1' := of_decide_eq_false q1
  refine go_for 31 (fun i s => H <+: s.H ∧ (∃ g, s.ρ 2 = .bx g [.int .i64 a.1, w, .int .i64 a.2.2]) ∧ (∃ g, s.ρ 3 = .bx g [.int .i64 b.1, u, .int .i64 b.2.2]) ∧ (∃ g cs, s.ρ 4 = .bx g cs ∧ cs.length = 3) ∧ s.ρ 6 = .val (.int .i64 i) ∧ ∃ g x, s.ρ 5 = .bx g [.int .i64 a.1, x, .int .i64 0] ∧ SlI s.H x (rowM a.1 a.2.1 b.2.1 i) ∧ OwnS H.length x)
    (fun s => H <+: s.H ∧ (∃ g cs, s.ρ 4 = .bx g cs ∧ cs.length = 3) ∧ ∃ g x, s.ρ 5 = .bx g [.int .i64 a.1, x, .int .i64 0] ∧ SlI s.H x (rowM a.1 a.2.1 b.2.1 31) ∧ OwnS H.length x) ?_ ?_ ?_
  · exact ⟨List.prefix_refl _, ⟨_, by simp [upd, ini]; rfl⟩, ⟨_, by simp [upd, ini]; rfl⟩, ⟨_, _, by simp [upd, ini]; exact ⟨rfl, rfl⟩, rfl⟩, by simp [upd], _, _, by simp [upd]; rfl, .inl ⟨rfl, rfl⟩, .inl rfl⟩
  · rintro i s hi ⟨kH, ⟨g2, k2⟩, ⟨g3, k3⟩, ⟨g4, cs4, k4, kl4⟩, k6, g5, x, k5, xs, xo⟩
    have sa := ha.pre kH
    have sb := hb.pre kH
    have wk := hw.pre kH
    have a87 := fun {m draw s d ts Q} => callT_at (m := m) (draw := draw) (s := s) (d := d) (ts := ts) (Q := Q) (f87 (h := (i : Int)) sa)
    have b87 := fun {m draw s d ts Q} => callT_at (m := m) (draw := draw) (s := s) (d := d) (ts := ts) (Q := Q) (f87 (h := (i : Int)) sb)
    have w1 := wrap64 ((i : Int) + 1) (by omega) (by omega)
    simp only [go_sem, ↓reduceIte, Nat.reduceEqDiff, reduceCtorEq, Nat.reduceAdd, Nat.reduceLeDiff, Nat.reduceMul, k2, k3, k4, k5, k6]
    cases c1 : decide ((i : Int) ≤ 30) <;> simp only [go_sem, ↓reduceIte, Nat.reduceEqDiff, reduceCtorEq, Nat.reduceAdd, Nat.reduceLeDiff, Nat.reduceMul, k2, k3, k4, k5, k6, c1]
    · have : i = 31 := by have := of_decide_eq_false c1; omega
      subst this
      exact ⟨kH, ⟨_, _, rfl, kl4⟩, _, _, rfl, xs, xo⟩
    have hi31 : i < 31 := by have := of_decide_eq_true c1; omega
    have hno : inM a.1 a.2.1 b.2.1 i = false → SlI s.H x (rowM a.1 a.2.1 b.2.1 (i + 1)) := fun h => by rw [rowM_f h]; exact xs
    have hrl := rowM_len a.1 a.2.1 b.2.1 i
    obtain ⟨x', H5, e1, e2, e3, e4, e5, e6, e7⟩ := xs.oneI (m := m) (i : Int) xo kH.length_le hw (by omega)
    have hyes : inM a.1 a.2.1 b.2.1 i = true → SlI H5 x' (rowM a.1 a.2.1 b.2.1 (i + 1)) := fun h => by rw [rowM_t h]; exact e2
    have p5 : H <+: H5 := e7 H (Nat.le_refl _) kH
    simp only [go_sem, ↓reduceIte, Nat.reduceEqDiff, reduceCtorEq, Nat.reduceAdd, Nat.reduceLeDiff, Nat.reduceMul, a87, wk]
    cases qa : decide ((i : Int) ∈ a.2.1) <;> simp only [go_sem, ↓reduceIte, Nat.reduceEqDiff, reduceCtorEq, Nat.reduceAdd, Nat.reduceLeDiff, Nat.reduceMul, k2, k3, k4, k5, k6, qa, b87, wk]
    · cases qc : decide (a.1 = 3) <;> simp only [go_sem, ↓reduceIte, Nat.reduceEqDiff, reduceCtorEq, Nat.reduceAdd, Nat.reduceLeDiff, Nat.reduceMul, k2, k3, k4, k5, k6, qc, w1]
      · exact ⟨hi31, kH, ⟨_, rfl⟩, ⟨_, rfl⟩, ⟨_, _, rfl, kl4⟩, by simp, _, _, rfl, hno (by unfold inM; rw [qa, qc]; rfl), xo⟩
      · cases qb : decide ((i : Int) ∈ b.2.1) <;> simp only [go_sem, ↓reduceIte, Nat.reduceEqDiff, reduceCtorEq, Nat.reduceAdd, Nat.reduceLeDiff, Nat.reduceMul, k2, k3, k4, k5, k6, qb, w1]
        · exact ⟨hi31, kH, ⟨_, rfl⟩, ⟨_, rfl⟩, ⟨_, _, rfl, kl4⟩, by simp, _, _, rfl, hno (by unfold inM; rw [qa, qb, qc]; rfl), xo⟩
        · rw [e1]
          rotate_left
          · rfl
          · rfl
          · rfl
          simp only [go_sem, ↓reduceIte, Nat.reduceEqDiff, reduceCtorEq, Nat.reduceAdd, Nat.reduceLeDiff, Nat.reduceMul, k2, k3, k4, k5, k6, w1, e2.vc]
          exact ⟨hi31, p5, ⟨_, rfl⟩, ⟨_, rfl⟩, ⟨_, _, rfl, kl4⟩, by simp, _, _, rfl, hyes (by unfold inM; rw [qa, qb, qc]; rfl), e3⟩
    · cases qb : decide ((i : Int) ∈ b.2.1) <;> simp only [go_sem, ↓reduceIte, Nat.reduceEqDiff, reduceCtorEq, Nat.reduceAdd, Nat.reduceLeDiff, Nat.reduceMul, k2, k3, k4, k5, k6, qb]
      · cases qc : decide (a.1 = 3) <;> simp only [go_sem, ↓reduceIte, Nat.reduceEqDiff, reduceCtorEq, Nat.reduceAdd, Nat.reduceLeDiff, Nat.reduceMul, k2, k3, k4, k5, k6, qc, w1]
        · exact ⟨hi31, kH, ⟨_, rfl⟩, ⟨_, rfl⟩, ⟨_, _, rfl, kl4⟩, by simp, _, _, rfl, hno (by unfold inM; rw [qa, qb, qc]; rfl), xo⟩
        · rw [e1]
          rotate_left
          · rfl
          · rfl
          · rfl
          simp only [go_sem, ↓reduceIte, Nat.reduceEqDiff, reduceCtorEq, Nat.reduceAdd, Nat.reduceLeDiff, Nat.reduceMul, k2, k3, k4, k5, k6, w1, e2.vc]
          exact ⟨hi31, p5, ⟨_, rfl⟩, ⟨_, rfl⟩, ⟨_, _, rfl, kl4⟩, by simp, _, _, rfl, hyes (by unfold inM; rw [qa, qb, qc]; rfl), e3⟩
      · rw [e1]
        rotate_left
        · rfl
        · rfl
        · rfl
        simp only [go_sem, ↓reduceIte, Nat.reduceEqDiff, reduceCtorEq, Nat.reduceAdd, Nat.reduceLeDiff, Nat.reduceMul, k2, k3, k4, k5, k6, w1, e2.vc]
        exact ⟨hi31, p5, ⟨_, rfl⟩, ⟨_, rfl⟩, ⟨_, _, rfl, kl4⟩, by simp, _, _, rfl, hyes (by unfold inM; rw [qa, qb]; rfl), e3⟩
  · rintro s ⟨kH, ⟨g4, cs4, k4, kl4⟩, g5, x, k5, xs, xo⟩
    obtain ⟨c0, c1, c2, rfl⟩ : ∃ a b c, cs4 = [a, b, c] := by
      match cs4, kl4 with
      | [a, b, c], _ => exact ⟨a, b, c, rfl⟩
    simp only [go_sem, ↓reduceIte, Nat.reduceEqDiff, reduceCtorEq, Nat.reduceAdd, Nat.reduceLeDiff, Nat.reduceMul, k4, k5]
    rw [show meetS a b = (a.1, rowM a.1 a.2.1 b.2.1 31, 0) by unfold meetS; rw [if_neg q1']]
    exact ⟨x, rfl, kH, xs, xo⟩
end Go.Proofs.Ytceilcdhflcbpaa.Ev

/- Rules: two of a kind together, the program's way. -/
namespace Go.Proofs.Ytceilcdhflcbpaa.Ev
set_option linter.all false
open Go
set_option maxRecDepth 4000

def mnI (a b : Int) : Int := if b < a then b else a
noncomputable def bothS (a b : Ru) : Ru := (a.1, if a.1 = 3 then rsn (a.2.1 ++ b.2.1) else a.2.1.filter (fun x => decide (x ∈ b.2.1)), mnI a.2.2 b.2.2)
theorem f80 {m : Md} {H : Hp} {w u : Value} {a b : Ru} (ha : SlI H w a.2.1) (hb : SlI H u b.2.1) (hla : a.2.1.length ≤ 31) (hlb : b.2.1.length ≤ 31) (hw : Wr m H) : Fun EE m 80 [vRu a w, vRu b u] H fun r H' => FreshU H r H' (bothS a b) := by
  refine fun_f rfl rfl k80 (by simp [c80]) ?_
  have p0 : H <+: H ++ [[]] := List.prefix_append _ _
  have s0 := own_newI (H := H)
  have o0 : OwnS H.length (.slice (some ⟨H.length, 0, some 1⟩) 0 (0 * 1)) := .inr ⟨_, _, _, _, rfl, Nat.le_refl _⟩
  generalize hwv : Value.slice (some ⟨H.length, 0, some 1⟩) 0 (0 * 1) = wv0 at s0 o0
  have a0 := ha.pre p0
  have b0 := hb.pre p0
  have w0 := hw.pre p0
  have hmn : mnI a.2.2 b.2.2 = (if b.2.2 < a.2.2 then b.2.2 else a.2.2) := rfl
  unfold vRu
  simp only [go_sem, ↓reduceIte, Nat.reduceEqDiff, reduceCtorEq, Nat.reduceAdd, Nat.reduceLeDiff, Nat.reduceMul, c80, buildK, fillL, exps, zeros_3, mnK, hwv]
  cases q1 : decide (a.1 = 3) <;> simp only [go_sem, ↓reduceIte, Nat.reduceEqDiff, reduceCtorEq, Nat.reduceAdd, Nat.reduceLeDiff, Nat.reduceMul, q1]
  · have hno : ¬ a.1 = 3 := of_decide_eq_false q1
    simp only [go_sem, ↓reduceIte, Nat.reduceEqDiff, reduceCtorEq, Nat.reduceAdd, Nat.reduceLeDiff, Nat.reduceMul, a0.len]
    refine go_for a.2.1.length (fun i s => H <+: s.H ∧ (∃ g, s.ρ 2 = .bx g [.int .i64 a.1, w, .int .i64 (mnI a.2.2 b.2.2)]) ∧ (∃ g, s.ρ 3 = .bx g [.int .i64 b.1, u, .int .i64 b.2.2]) ∧ (∃ g cs, s.ρ 4 = .bx g cs ∧ cs.length = 3) ∧ s.ρ 26 = .val w ∧ s.ρ 27 = .val (.int .i64 a.2.1.length) ∧ s.ρ 28 = .val (.int .i64 i) ∧ ∃ x, s.ρ 5 = .val x ∧ SlI s.H x ((a.2.1.take i).filter (fun x => decide (x ∈ b.2.1))) ∧ OwnS H.length x)
      (fun s => H <+: s.H ∧ (∃ g, s.ρ 2 = .bx g [.int .i64 a.1, w, .int .i64 (mnI a.2.2 b.2.2)]) ∧ (∃ g cs, s.ρ 4 = .bx g cs ∧ cs.length = 3) ∧ ∃ x, s.ρ 5 = .val x ∧ SlI s.H x (a.2.1.filter (fun x => decide (x ∈ b.2.1))) ∧ OwnS H.length x) ?_ ?_ ?_
    · exact ⟨p0, ⟨_, by simp [upd, ini, hmn]; rfl⟩, ⟨_, by simp [upd, ini]; rfl⟩, ⟨_, _, by simp [upd, ini]; exact ⟨rfl, rfl⟩, rfl⟩, by simp [upd], by simp [upd], by simp [upd], wv0, by simp [upd], by simpa using s0, o0⟩
    · rintro i s hi ⟨kH, ⟨g2, k2⟩, ⟨g3, k3⟩, ⟨g4, cs4, k4, kl4⟩, k26, k27, k28, x, k5, xs, xo⟩
      have sa := ha.pre kH
      have sb := hb.pre kH
      have wk := hw.pre kH
      simp only [go_sem, ↓reduceIte, Nat.reduceEqDiff, reduceCtorEq, Nat.reduceAdd, Nat.reduceLeDiff, Nat.reduceMul, k2, k3, k4, k5, k26, k27, k28]
      cases c1 : decide ((i : Int) < (a.2.1.length : Int)) <;> simp only [go_sem, ↓reduceIte, Nat.reduceEqDiff, reduceCtorEq, Nat.reduceAdd, Nat.reduceLeDiff, Nat.reduceMul, k2, k3, k4, k5, k26, k27, k28, c1]
      · have : i = a.2.1.length := by have := of_decide_eq_false c1; omega
        subst this
        rw [List.take_length] at xs
        exact ⟨kH, ⟨_, rfl⟩, ⟨_, _, rfl, kl4⟩, _, rfl, xs, xo⟩
      have hil : i < a.2.1.length := by have := of_decide_eq_true c1; omega
      have w1 := wrap64 ((i : Int) + 1) (by omega) (by omega)
      obtain ⟨id, q, o, ho, hg, hia⟩ := sa.int (List.getElem?_eq_getElem hil)
      have a85 := fun {m draw s d ts Q} => callT_at (m := m) (draw := draw) (s := s) (d := d) (ts := ts) (Q := Q) (f85 (h := a.2.1[i]) sb)
      simp only [go_sem, ↓reduceIte, Nat.reduceEqDiff, reduceCtorEq, Nat.reduceAdd, Nat.reduceLeDiff, Nat.reduceMul, k2, k3, k4, k5, k26, k27, k28, hia, ho, hg, a85, wk]
      have hts := List.take_succ_eq_append_getElem hil
      cases qb : decide (a.2.1[i] ∈ b.2.1) <;> simp only [go_sem, ↓reduceIte, Nat.reduceEqDiff, reduceCtorEq, Nat.reduceAdd, Nat.reduceLeDiff, Nat.reduceMul, k2, k3, k4, k5, k26, k27, k28, qb, w1]
      · refine ⟨hil, kH, ⟨_, rfl⟩, ⟨_, rfl⟩, ⟨_, _, rfl, kl4⟩, by simp, _, rfl, ?_, xo⟩
        rw [hts, List.filter_append]
        simp only [List.filter_cons, qb, Bool.false_eq_true, if_false, List.filter_nil, List.append_nil]
        exact xs
      · have hlf := List.length_filter_le (fun x => decide (x ∈ b.2.1)) (a.2.1.take i)
        rw [List.length_take] at hlf
        obtain ⟨x', H5, e1, e2, e3, e4, e5, e6, e7⟩ := xs.oneI (m := m) a.2.1[i] xo kH.length_le hw (by omega)
        have p5 : H <+: H5 := e7 H (Nat.le_refl _) kH
        rw [e1]
        rotate_left
        · rfl
        · rfl
        · rfl
        simp only [go_sem, ↓reduceIte, Nat.reduceEqDiff, reduceCtorEq, Nat.reduceAdd, Nat.reduceLeDiff, Nat.reduceMul, k2, k3, k4, k5, k26, k27, k28, w1]
        refine ⟨hil, p5, ⟨_, rfl⟩, ⟨_, rfl⟩, ⟨_, _, rfl, kl4⟩, by simp, _, rfl, ?_, e3⟩
        rw [hts, List.filter_append]
        simp only [List.filter_cons, qb, if_true, List.filter_nil]
        exact e2
    · rintro s ⟨kH, ⟨g2, k2⟩, ⟨g4, cs4, k4, kl4⟩, x, k5, xs, xo⟩
      obtain ⟨c0, c1, c2, rfl⟩ : ∃ a b c, cs4 = [a, b, c] := by
        match cs4, kl4 with
        | [a, b, c], _ => exact ⟨a, b, c, rfl⟩
      simp only [go_sem, ↓reduceIte, Nat.reduceEqDiff, reduceCtorEq, Nat.reduceAdd, Nat.reduceLeDiff, Nat.reduceMul, k2, k4, k5, xs.vc]
      rw [show bothS a b = (a.1, a.2.1.filter (fun x => decide (x ∈ b.2.1)), mnI a.2.2 b.2.2) by unfold bothS; rw [if_neg hno]]
      exact ⟨x, rfl, kH, xs, xo⟩
  · have hyes : a.1 = 3 := of_decide_eq_true q1
    refine go_draw ?_
    simp only [go_sem, ↓reduceIte, Nat.reduceEqDiff, reduceCtorEq, Nat.reduceAdd, Nat.reduceLeDiff, Nat.reduceMul]
    refine callT_to (fun m' h => f81 a0 (by omega) h) rfl w0 fun y H1 ⟨p1, s1, o1⟩ => ?_
    have p1 : H ++ [[]] <+: H1 := p1
    have o1 : OwnS (H ++ [[]]).length y := o1
    have w1 := w0.pre p1
    obtain ⟨z, H2, e1, e2, e3, e4, e5, e6, e7⟩ := s1.join (m := m) (N := (H ++ [[]]).length) (bytes := 8) (b0.pre p1) (fun _ => rfl) (by omega) o1 p1.length_le (fun i hi => w0 i hi) (by unfold Ev.room; omega) (by unfold Ev.room; omega)
    have p2 : H ++ [[]] <+: H2 := e7 _ (Nat.le_refl _) p1
    have n2 := p2.length_le
    have hzge := own_ge e3
    simp only [go_sem, ↓reduceIte, Nat.reduceEqDiff, reduceCtorEq, Nat.reduceAdd, Nat.reduceLeDiff, Nat.reduceMul]
    rw [e1]
    rotate_left
    · rfl
    · rfl
    · rfl
    simp only [go_sem, ↓reduceIte, Nat.reduceEqDiff, reduceCtorEq, Nat.reduceAdd, Nat.reduceLeDiff, Nat.reduceMul]
    have hll : (a.2.1 ++ b.2.1).length ≤ 1048576 := by simp; omega
    refine callT_arg (by rfl) (fun m' h1 h2 h3 => f92 e2 hll (fun id hid => h2 id (by simpa using hid) (w0 id (hzge id hid)))) rfl (fun i hi => w0 i (by omega)) fun r H3 h92 => ?_
    obtain ⟨s3, o3, f3, n3, i3⟩ := h92
    have p3 : H <+: H3 := by
      refine List.prefix_iff_getElem?.2 fun j hj => ?_
      have hlt : j < H2.length := by have := (p0.trans p2).length_le; omega
      rw [f3 j (fun hm => by have := hzge j hm; simp at this; omega), pre_get (p0.trans p2) hj, List.getElem?_eq_getElem hj]
    simp only [go_sem, ↓reduceIte, Nat.reduceEqDiff, reduceCtorEq, Nat.reduceAdd, Nat.reduceLeDiff, Nat.reduceMul, s3.vc]
    refine ⟨by rfl, ?_⟩
    rw [show bothS a b = (a.1, rsn (a.2.1 ++ b.2.1), mnI a.2.2 b.2.2) by unfold bothS; rw [if_pos hyes]]
    (try simp only [go_sem, ↓reduceIte, Nat.reduceEqDiff, reduceCtorEq, Nat.reduceAdd, Nat.reduceLeDiff, Nat.reduceMul, s3.vc])
    exact ⟨r, rfl, p3, s3, (o3 _ e3).mono p0.length_le⟩
end Go.Proofs.Ytceilcdhflcbpaa.Ev

/- Rows of rules that are made; the rule of a kind, the reference's way. -/
namespace Go.Proofs.Ytceilcdhflcbpaa.Ev
set_option linter.all false
open Go
set_option maxRecDepth 4000

/-- A rule and its set's header. -/
abbrev Rx := Ru × Value
def RXr (H : Hp) (x : Rx) (cs : List Value) : Prop := cs = [.int .i64 x.1.1, x.2, .int .i64 x.1.2.2] ∧ SlI H x.2 x.1.2.1
structure RL (N : Nat) (H : Hp) (v : Value) (l : List Rx) : Prop where
  sl : Sl (RXr H) 3 H v l
  own : OwnS N v
  far : ∀ x ∈ l, ∀ j ∈ idsOf x.2, j ∉ idsOf v ∧ N ≤ j
theorem RL.pre {N : Nat} {H H' : Hp} {v : Value} {l : List Rx} (h : RL N H v l) (hp : H <+: H') : RL N H' v l :=
  ⟨(h.sl.pre hp).frame (fun _ _ _ h => ⟨h.1, h.2.pre hp⟩) fun _ _ _ _ _ _ => rfl, h.own, h.far⟩
theorem RL.r {N : Nat} {H : Hp} {v : Value} {l : List Rx} (h : RL N H v l) : SlR H v (l.map (·.1)) := by
  rcases h.sl with ⟨rfl, rfl⟩ | ⟨id, off, cap, o, rfl, ho, hc, hn, hrm, hr⟩
  · exact .inl ⟨rfl, rfl⟩
  · exact .inr ⟨id, off, cap, o, by rw [List.length_map], ho, hc, by rw [List.length_map]; exact hn, by rw [List.length_map]; exact hrm, fun i a hi => by
      rw [List.getElem?_map] at hi
      cases hx : l[i]? with
      | none => rw [hx] at hi; cases hi
      | some x =>
        rw [hx] at hi
        cases hi
        obtain ⟨e, p⟩ := hr i x hx
        exact ⟨_, e, p⟩⟩
theorem RL.mono {N N' : Nat} {H : Hp} {v : Value} {l : List Rx} (h : RL N H v l) (hn : N' ≤ N) : RL N' H v l := ⟨h.sl, h.own.mono hn, fun x hx j hj => ⟨(h.far x hx j hj).1, Nat.le_trans hn (h.far x hx j hj).2⟩⟩
theorem RL.part {N : Nat} {H : Hp} {v : Value} {l : List Rx} (h : RL N H v l) : ∀ x ∈ l, SlI H x.2 x.1.2.1 := fun x hx => by
  obtain ⟨i, hi⟩ := List.getElem?_of_mem hx
  obtain ⟨id, p, o, ho, ⟨e, a⟩, _⟩ := h.sl.elem hi
  exact a
theorem RL.push {m : Md} {N : Nat} {H : Hp} {v w : Value} {l : List Rx} {a : Ru} (h : RL N H v l) (hN : N ≤ H.length) (hs : SlI H w a.2.1) (hfar : ∀ j ∈ idsOf w, j ∉ idsOf v ∧ N ≤ j) (hw : ∀ id, N ≤ id → m.wr id = true) (hnr : m.nr = false) (hb : l.length ≤ 1000) :
    ∃ v' H', (∀ (st : St) (x y : X), st.H = H → exv st.ρ x = some v → ex st.ρ y = .vs 1 [.int .i64 a.1, w, .int .i64 a.2.2] → appK m st 3 40 x y = some (.val v', { st with H := H' })) ∧ RL N H' v' (l ++ [(a, w)]) ∧
      (∀ j, j < H.length → j ∉ idsOf v → H'[j]? = H[j]?) ∧ H.length ≤ H'.length ∧ (∀ j ∈ idsOf v', j ∈ idsOf v ∨ H.length ≤ j) ∧ ∀ H0 : Hp, H0.length ≤ N → H0 <+: H → H0 <+: H' := by
  obtain ⟨v', H', h1, h2, h3, h4, h5, h6, h7⟩ := h.sl.app (m := m) (n := 1) (bytes := 40) (l2 := [(a, w)]) (cs := [.int .i64 a.1, w, .int .i64 a.2.2]) h.own hN hw (fun e => by rw [hnr] at e; cases e) (by simp) rfl (fun i b hi => by
    cases i with
    | zero => simp at hi; subst hi; exact ⟨rfl, hs⟩
    | succ i => simp at hi) (by unfold Ev.room; simp; omega) (by unfold Ev.room; simp; omega)
  have hall : ∀ x ∈ l ++ [(a, w)], SlI H x.2 x.1.2.1 ∧ ∀ j ∈ idsOf x.2, j ∉ idsOf v ∧ N ≤ j := fun x hx => by
    rcases List.mem_append.1 hx with hx | hx
    · exact ⟨h.part x hx, h.far x hx⟩
    · rw [List.mem_singleton] at hx; subst hx; exact ⟨hs, hfar⟩
  refine ⟨v', H', fun st x y hH hx hy => h1 st x y hH hx (by rw [hy]; rfl), ⟨h2.frame (fun x hx cs ⟨e, p⟩ => ⟨e, p.aside (fun j hj => ((hall x hx).2 j hj).1) h4⟩) fun _ _ _ _ _ _ => rfl, h3, fun x hx j hj => ?_⟩, h4, h5, h6, h7⟩
  have := (hall x hx).2 j hj
  have hl := (hall x hx).1.ids j hj
  refine ⟨fun hq => ?_, this.2⟩
  rcases h6 j hq with hq | hq
  · exact this.1 hq
  · omega
/-- One rule put in another one's place. -/
theorem RL.put {N : Nat} {H : Hp} {v w : Value} {l : List Rx} {a : Ru} {i : Nat} (h : RL N H v l) (hi : i < l.length) (hs : SlI H w a.2.1) (hfar : ∀ j ∈ idsOf w, j ∉ idsOf v ∧ N ≤ j) :
    ∃ id p o, H[id]? = some o ∧ p + 3 ≤ o.length ∧ N ≤ id ∧ id ∈ idsOf v ∧ (o.drop p).take 3 = [.int .i64 l[i].1.1, l[i].2, .int .i64 l[i].1.2.2] ∧ (∀ (s : St) (x y : X), exv s.ρ x = some v → exv s.ρ y = some (.int .i64 i) → iadrK s 3 x y = some (.val (.pointer (some ⟨id, p, some o.length⟩)), s)) ∧
      RL N (H.set id (spl o p [.int .i64 a.1, w, .int .i64 a.2.2])) v (l.set i (a, w)) := by
  have sh : Sl (fun (z : Rx) cs => cs = [.int .i64 z.1.1, z.2, .int .i64 z.1.2.2]) 3 H v l := h.sl.frame (fun _ _ _ h => h.1) fun _ _ _ _ _ _ => rfl
  obtain ⟨id, p, o, ho, hp, hid, hR, hia, hst⟩ := sh.both hi
  have hidv : id ∈ idsOf v := by rw [hid]; simp
  have hst := hst (a, w) [.int .i64 a.1, w, .int .i64 a.2.2] rfl rfl
  have hall : ∀ x ∈ l.set i (a, w), SlI H x.2 x.1.2.1 ∧ ∀ j ∈ idsOf x.2, j ∉ idsOf v ∧ N ≤ j := fun x hx => by
    rcases List.mem_or_eq_of_mem_set hx with hx | hx
    · exact ⟨h.part x hx, h.far x hx⟩
    · subst hx; exact ⟨hs, hfar⟩
  exact ⟨id, p, o, ho, hp, own_ge h.own id hidv, hidv, hR, hia, hst.frame (fun x hx cs e => ⟨e, ((hall x hx).1).other (fun hm => ((hall x hx).2 id hm).1 hidv)⟩) fun _ _ _ _ _ _ => rfl, h.own, fun x hx => (hall x hx).2⟩
theorem RL.new {H : Hp} : RL H.length (H ++ [[]]) (.slice (some ⟨H.length, 0, some 3⟩) 0 (0 * 3)) [] :=
  ⟨.inr ⟨H.length, 0, 0, [], rfl, by simp, by simp, by simp, by simp, fun i a hi => by simp at hi⟩, .inr ⟨_, _, _, _, rfl, Nat.le_refl _⟩, by simp⟩

def stepS (k : Int) (o : Option Ru) (a : Ru) : Option Ru := if a.1 = k then (match o with | some r => some (meetS r a) | none => some (k, a.2.1, a.2.2)) else o
def kindR (l : List Ru) (k : Int) : Option Ru := l.foldl (stepS k) none
theorem kind_succ {l : List Ru} {k : Int} {i : Nat} (hi : i < l.length) : kindR (l.take (i + 1)) k = stepS k (kindR (l.take i) k) l[i] := by
  unfold kindR
  rw [List.take_succ_eq_append_getElem hi, List.foldl_append]
  rfl
def kv (o : Option Ru) : Ru := o.getD (0, [], 0)
theorem rOk_set {a : Ru} (h : rOk a = true) : a.2.1.length ≤ 31 ∧ SetP a.2.1 := by
  unfold rOk at h
  split at h
  · rw [Bool.and_eq_true] at h
    exact ⟨set_len (set_t.1 h.2), set_t.1 h.2⟩
  · split at h
    · rw [Bool.and_eq_true, decide_eq_true_eq] at h
      have e : a.2.1 = [] := List.eq_nil_of_length_eq_zero h.1
      rw [e]
      exact ⟨by simp, by simp, fun i hi => by simp at hi⟩
    · cases h
def FreshK (H : Hp) (r : Value) (H' : Hp) (o : Option Ru) : Prop := ∃ w, r = .tuple #[vRu (kv o) w, .bool o.isSome] ∧ H <+: H' ∧ SlI H' w (kv o).2.1 ∧ OwnS H.length w
theorem f66 {m : Md} {H : Hp} {v : Value} {l : List Ru} {k : Int} (hl : SlR H v l) (hok : rulesOk l = true) (hw : Wr m H) : Fun EE m 66 [v, .int .i64 k] H fun r H' => FreshK H r H' (kindR l k) := by
  refine fun_f rfl rfl k66 (by simp [c66]) ?_
  have hroom := hl.room
  obtain ⟨h20, hall⟩ := rules_t.1 hok
  simp only [go_sem, ↓reduceIte, Nat.reduceEqDiff, reduceCtorEq, Nat.reduceAdd, Nat.reduceLeDiff, Nat.reduceMul, c66, buildK, fillL, exps, zeros_3]
  refine go_for l.length (fun i s => H <+: s.H ∧ s.ρ 0 = .val v ∧ s.ρ 1 = .val (.int .i64 k) ∧ (∃ g cs, s.ρ 4 = .bx g cs ∧ cs.length = 3) ∧ s.ρ 7 = .val (.bool (kindR (l.take i) k).isSome) ∧ s.ρ 8 = .val (.int .i64 i) ∧
      ∃ g x, s.ρ 6 = .bx g [.int .i64 (kv (kindR (l.take i) k)).1, x, .int .i64 (kv (kindR (l.take i) k)).2.2] ∧ SlI s.H x (kv (kindR (l.take i) k)).2.1 ∧ OwnS H.length x)
    (fun s => H <+: s.H ∧ (∃ g cs, s.ρ 4 = .bx g cs ∧ cs.length = 3) ∧ s.ρ 7 = .val (.bool (kindR l k).isSome) ∧ ∃ g x, s.ρ 6 = .bx g [.int .i64 (kv (kindR l k)).1, x, .int .i64 (kv (kindR l k)).2.2] ∧ SlI s.H x (kv (kindR l k)).2.1 ∧ OwnS H.length x) ?_ ?_ ?_
  · exact ⟨List.prefix_refl _, by simp [upd, ini], by simp [upd, ini], ⟨_, _, by simp [upd, ini]; exact ⟨rfl, rfl⟩, rfl⟩, by simp [upd, kindR], by simp [upd], _, _, by simp [upd, kindR, kv]; rfl, .inl ⟨rfl, rfl⟩, .inl rfl⟩
  · rintro i s hi ⟨kH, k0, k1, ⟨g4, cs4, k4, kl4⟩, k7, k8, g6, x, k6, xs, xo⟩
    have lk := hl.pre kH
    have wk := hw.pre kH
    simp only [go_sem, ↓reduceIte, Nat.reduceEqDiff, reduceCtorEq, Nat.reduceAdd, Nat.reduceLeDiff, Nat.reduceMul, k0, k1, k4, k6, k7, k8, lk.len]
    cases c1 : decide ((i : Int) < (l.length : Int)) <;> simp only [go_sem, ↓reduceIte, Nat.reduceEqDiff, reduceCtorEq, Nat.reduceAdd, Nat.reduceLeDiff, Nat.reduceMul, k0, k1, k4, k6, k7, k8, c1]
    · have : i = l.length := by have := of_decide_eq_false c1; omega
      subst this
      rw [List.take_length] at *
      exact ⟨kH, ⟨_, _, rfl, kl4⟩, rfl, _, _, rfl, xs, xo⟩
    have hil : i < l.length := by have := of_decide_eq_true c1; omega
    have w1 := wrap64 ((i : Int) + 1) (by omega) (by omega)
    obtain ⟨id, q, o, ho, ⟨w, hr, hs⟩, hp, hia⟩ := lk.elem (List.getElem?_eq_getElem hil)
    have g0 : o[q]? = some (.int .i64 l[i].1) := by simpa using getElem?_of_take hr (j := 0) (by omega)
    have g1 : o[q + 1]? = some w := by simpa using getElem?_of_take hr (j := 1) (by omega)
    have g2 : o[q + 2]? = some (.int .i64 l[i].2.2) := by simpa using getElem?_of_take hr (j := 2) (by omega)
    have hidl := (List.getElem?_eq_some_iff.1 ho).1
    have hks := kind_succ (k := k) hil
    have hrok := hall _ (List.getElem_mem hil)
    have hset := rOk_set hrok
    simp only [go_sem, ↓reduceIte, Nat.reduceEqDiff, reduceCtorEq, Nat.reduceAdd, Nat.reduceLeDiff, Nat.reduceMul, k0, k1, k4, k6, k7, k8, hia, ho, g0]
    cases qa : decide (l[i].1 = k) <;> simp only [go_sem, ↓reduceIte, Nat.reduceEqDiff, reduceCtorEq, Nat.reduceAdd, Nat.reduceLeDiff, Nat.reduceMul, k0, k1, k4, k6, k7, k8, qa, w1]
    · have e : kindR (l.take (i + 1)) k = kindR (l.take i) k := by rw [hks]; unfold stepS; rw [if_neg (of_decide_eq_false qa)]
      rw [e]
      exact ⟨hil, kH, ⟨_, _, rfl, kl4⟩, rfl, by simp, _, _, rfl, xs, xo⟩
    have hka := of_decide_eq_true qa
    cases qo : kindR (l.take i) k with
    | none =>
      have e : kindR (l.take (i + 1)) k = some (k, l[i].2.1, l[i].2.2) := by rw [hks, qo]; unfold stepS; rw [if_pos hka]
      have pn : s.H <+: s.H ++ [[]] := List.prefix_append _ _
      have sn := own_newI (H := s.H)
      have on : OwnS s.H.length (.slice (some ⟨s.H.length, 0, some 1⟩) 0 (0 * 1)) := .inr ⟨_, _, _, _, rfl, Nat.le_refl _⟩
      obtain ⟨z, H2, e1, e2, e3, e4, e5, e6, e7⟩ := sn.join (m := m) (N := s.H.length) (bytes := 8) (hs.pre pn) (fun _ => rfl) (by omega) on pn.length_le wk (by unfold Ev.room; simp; omega) (by unfold Ev.room; simp; omega)
      rw [List.nil_append] at e2
      have p2 : s.H <+: H2 := e7 _ (Nat.le_refl _) pn
      have ho2 : H2[id]? = some o := by rw [pre_get p2 hidl]; exact ho
      have ho1 : (s.H ++ [[]])[id]? = some o := by rw [pre_get pn hidl]; exact ho
      have hd : decide (id < s.H.length) = true := decide_eq_true hidl
      simp only [go_sem, ↓reduceIte, Nat.reduceEqDiff, reduceCtorEq, Nat.reduceAdd, Nat.reduceLeDiff, Nat.reduceMul, k0, k1, k4, k6, k7, k8, qo, Option.isSome]
      refine go_draw2 s.H.length ?_
      simp only [go_sem, ↓reduceIte, Nat.reduceEqDiff, reduceCtorEq, Nat.reduceAdd, Nat.reduceLeDiff, Nat.reduceMul, k0, k1, k4, k6, k7, k8, hia, ho1, g1, fillL, hd]
      rw [e1]
      rotate_left
      · rfl
      · rfl
      · rfl
      simp only [go_sem, ↓reduceIte, Nat.reduceEqDiff, reduceCtorEq, Nat.reduceAdd, Nat.reduceLeDiff, Nat.reduceMul, k0, k1, k4, k6, k7, k8, hia, ho2, g2, hd, buildK, exps, fillL, zeros_3, w1, e2.vc]
      refine ⟨by simp only [List.length_append, Nat.le_add_right, decide_true, Option.map_some, idsOf, List.all_cons, List.all_nil, Nat.le_refl]; rfl, ?_⟩
      rw [e]
      (try simp only [go_sem, ↓reduceIte, Nat.reduceEqDiff, reduceCtorEq, Nat.reduceAdd, Nat.reduceLeDiff, Nat.reduceMul, k0, k1, k4, k6, k7, k8, w1, e2.vc])
      exact ⟨hil, kH.trans p2, ⟨_, _, rfl, kl4⟩, by simp, _, _, rfl, e2, e3.mono kH.length_le⟩
    | some r =>
      have e : kindR (l.take (i + 1)) k = some (meetS r l[i]) := by rw [hks, qo]; unfold stepS; rw [if_pos hka]
      rw [qo] at xs k6
      simp only [kv, Option.getD_some] at xs k6
      simp only [go_sem, ↓reduceIte, Nat.reduceEqDiff, reduceCtorEq, Nat.reduceAdd, Nat.reduceLeDiff, Nat.reduceMul, k0, k1, k4, k6, k7, k8, qo, Option.isSome]
      refine go_draw ?_
      simp only [go_sem, ↓reduceIte, Nat.reduceEqDiff, reduceCtorEq, Nat.reduceAdd, Nat.reduceLeDiff, Nat.reduceMul, k0, k1, k4, k6, k7, k8, hia, ho, hr, hp]
      have k86 := fun (m' : Md) (h : Wr m' s.H) => f86 (m := m') (a := r) (b := l[i]) xs hs h
      simp only [vRu] at k86
      refine callT_to k86 rfl wk fun rv H2 ⟨x2, er, p2, s2, o2⟩ => ?_
      subst er
      have p2 : s.H <+: H2 := p2
      have o2 : OwnS s.H.length x2 := o2
      unfold vRu
      simp only [go_sem, ↓reduceIte, Nat.reduceEqDiff, reduceCtorEq, Nat.reduceAdd, Nat.reduceLeDiff, Nat.reduceMul, k0, k1, k4, k6, k7, k8, w1]
      refine ⟨by rfl, ?_⟩
      rw [e]
      (try simp only [go_sem, ↓reduceIte, Nat.reduceEqDiff, reduceCtorEq, Nat.reduceAdd, Nat.reduceLeDiff, Nat.reduceMul, k0, k1, k4, k6, k7, k8, w1])
      exact ⟨hil, kH.trans p2, ⟨_, _, rfl, kl4⟩, by rw [qo]; rfl, by simp, _, _, rfl, s2, o2.mono kH.length_le⟩
  · rintro s ⟨kH, ⟨g4, cs4, k4, kl4⟩, k7, g6, x, k6, xs, xo⟩
    obtain ⟨c0, c1, c2, rfl⟩ : ∃ a b c, cs4 = [a, b, c] := by
      match cs4, kl4 with
      | [a, b, c], _ => exact ⟨a, b, c, rfl⟩
    simp only [go_sem, ↓reduceIte, Nat.reduceEqDiff, reduceCtorEq, Nat.reduceAdd, Nat.reduceLeDiff, Nat.reduceMul, k4, k6, k7]
    exact ⟨x, rfl, kH, xs, xo⟩
end Go.Proofs.Ytceilcdhflcbpaa.Ev

/- Rules: two of a kind, plain; right ones stay right. -/
namespace Go.Proofs.Ytceilcdhflcbpaa.Ev
set_option linter.all false
open Go
set_option maxRecDepth 4000

theorem rowM_in {k : Int} {A B : List Int} {x : Int} : ∀ {n : Nat}, x ∈ rowM k A B n ↔ ∃ j : Nat, x = j ∧ j < n ∧ inM k A B j = true
  | 0 => by simp [rowM]
  | n + 1 => by
    cases q : inM k A B n with
    | true =>
      rw [rowM_t q, List.mem_append, List.mem_singleton, rowM_in]
      constructor
      · rintro (⟨j, h1, h2, h3⟩ | h)
        · exact ⟨j, h1, by omega, h3⟩
        · exact ⟨n, h, by omega, q⟩
      · rintro ⟨j, h1, h2, h3⟩
        by_cases e : j = n
        · subst e; exact .inr h1
        · exact .inl ⟨j, h1, by omega, h3⟩
    | false =>
      rw [rowM_f q, rowM_in]
      constructor
      · rintro ⟨j, h1, h2, h3⟩
        exact ⟨j, h1, by omega, h3⟩
      · rintro ⟨j, h1, h2, h3⟩
        by_cases e : j = n
        · subst e; rw [q] at h3; cases h3
        · exact ⟨j, h1, by omega, h3⟩
theorem rowM_asc {k : Int} {A B : List Int} : ∀ n, Asc (rowM k A B n)
  | 0 => .nil
  | n + 1 => by
    have ih := rowM_asc (k := k) (A := A) (B := B) n
    cases q : inM k A B n with
    | true =>
      rw [rowM_t q]
      refine List.pairwise_append.2 ⟨ih, by simp, fun a ha b hb => ?_⟩
      rw [List.mem_singleton] at hb
      obtain ⟨j, h1, h2, h3⟩ := rowM_in.1 ha
      omega
    | false => rw [rowM_f q]; exact ih
theorem rowM_set {k : Int} {A B : List Int} : SetP (rowM k A B 31) := asc_set (rowM_asc 31) fun n hn => by
  obtain ⟨j, h1, h2, h3⟩ := rowM_in.1 hn
  omega
theorem rOk_low {a : Ru} (h1 : 1 ≤ a.1) (h2 : a.1 ≤ 3) : rOk a = true ↔ a.2.2 = 0 ∧ SetP a.2.1 := by
  unfold rOk
  rw [if_pos (inB_t.2 ⟨h1, h2⟩), Bool.and_eq_true, decide_eq_true_eq, set_t]
theorem rOk_high {a : Ru} (h1 : 4 ≤ a.1) (h2 : a.1 ≤ 5) : rOk a = true ↔ a.2.1 = [] ∧ 0 ≤ a.2.2 ∧ a.2.2 ≤ 100000 := by
  unfold rOk
  rw [if_neg (fun h => by have := inB_t.1 h; omega), if_pos (inB_t.2 ⟨h1, h2⟩), Bool.and_eq_true, decide_eq_true_eq, inB_t, List.length_eq_zero_iff]
theorem rOk_kind {a : Ru} (h : rOk a = true) : 1 ≤ a.1 ∧ a.1 ≤ 5 := by
  unfold rOk at h
  split at h
  · rename_i h1; have := inB_t.1 h1; omega
  · split at h
    · rename_i h1; have := inB_t.1 h1; omega
    · cases h
theorem meet_in {k : Int} {A B : List Int} (hA : SetP A) (hB : SetP B) {x : Int} : x ∈ rowM k A B 31 ↔ (x ∈ A ∧ x ∈ B) ∨ (k = 3 ∧ (x ∈ A ∨ x ∈ B)) := by
  rw [rowM_in]
  constructor
  · rintro ⟨j, h1, h2, h3⟩
    subst h1
    simpa [inM] using h3
  · intro h
    have hb : 0 ≤ x ∧ x ≤ 30 := by
      rcases h with h | ⟨_, h | h⟩
      · exact hA.1 x h.1
      · exact hA.1 x h
      · exact hB.1 x h
    obtain ⟨j, rfl⟩ : ∃ j : Nat, x = j := ⟨x.toNat, by omega⟩
    exact ⟨j, rfl, by omega, by simpa [inM] using h⟩
theorem meet_both {r a : Ru} (h1 : rOk r = true) (h2 : rOk a = true) (he : a.1 = r.1) : bothS r a = meetS r a ∧ rOk (meetS r a) = true ∧ (meetS r a).1 = r.1 := by
  obtain ⟨g1, g2⟩ := rOk_kind h1
  by_cases h4 : 4 ≤ r.1
  · obtain ⟨e1, b1, b2⟩ := (rOk_high h4 g2).1 h1
    obtain ⟨e2, b3, b4⟩ := (rOk_high (he ▸ h4) (he ▸ g2)).1 h2
    have em : meetS r a = (r.1, [], lsI r.2.2 a.2.2) := by unfold meetS; rw [if_pos h4]
    rw [em]
    refine ⟨?_, (rOk_high (a := (r.1, [], lsI r.2.2 a.2.2)) h4 g2).2 ⟨rfl, by unfold lsI; simp only; split <;> omega⟩, rfl⟩
    unfold bothS
    rw [if_neg (by omega), e1]
    congr 2
    unfold mnI lsI
    split <;> split <;> omega
  · obtain ⟨e1, s1⟩ := (rOk_low g1 (by omega)).1 h1
    obtain ⟨e2, s2⟩ := (rOk_low (he ▸ g1) (by omega)).1 h2
    have em : meetS r a = (r.1, rowM r.1 r.2.1 a.2.1 31, 0) := by unfold meetS; rw [if_neg h4]
    rw [em]
    refine ⟨?_, (rOk_low (a := (r.1, rowM r.1 r.2.1 a.2.1 31, 0)) g1 (by show r.1 ≤ 3; omega)).2 ⟨rfl, rowM_set⟩, rfl⟩
    unfold bothS
    have hn : mnI r.2.2 a.2.2 = 0 := by rw [e1, e2]; rfl
    rw [hn]
    congr 2
    split
    · rename_i h3
      refine (rsn_to (rowM_asc 31) fun x => ?_).symm
      rw [meet_in s1 s2, List.mem_append]
      constructor
      · rintro (h | h)
        · exact .inl h.1
        · exact h.2
      · exact fun h => .inr ⟨h3, h⟩
    · rename_i h3
      refine Asc.eq (List.Pairwise.filter _ (set_asc s1)) (rowM_asc 31) fun x => ?_
      rw [meet_in s1 s2, List.mem_filter, decide_eq_true_eq]
      constructor
      · exact fun h => .inl h
      · rintro (h | h)
        · exact h
        · exact absurd h.1 h3
theorem kind_ok {l : List Ru} {k : Int} (hall : ∀ a ∈ l, rOk a = true) : ∀ i, i ≤ l.length → ∀ r, kindR (l.take i) k = some r → rOk r = true ∧ r.1 = k
  | 0, _, r, h => by simp [kindR] at h
  | i + 1, hi, r, h => by
    have ih := kind_ok (k := k) hall i (by omega)
    rw [kind_succ (show i < l.length by omega)] at h
    have ha := hall _ (List.getElem_mem (show i < l.length by omega))
    unfold stepS at h
    split at h
    · rename_i hk
      cases q : kindR (l.take i) k with
      | none =>
        rw [q] at h
        cases h
        have e : (k, l[i].2.1, l[i].2.2) = l[i] := by rw [← hk]
        rw [e]
        exact ⟨ha, hk⟩
      | some r0 =>
        rw [q] at h
        obtain ⟨h1, h2⟩ := ih r0 q
        have := meet_both h1 ha (by omega)
        cases h
        exact ⟨this.2.1, this.2.2.trans h2⟩
    · exact ih r h
def normT (l : List Ru) : Nat → List Ru
  | 0 => []
  | n + 1 => match kindR l ((n + 1 : Nat) : Int) with | some r => normT l n ++ [r] | none => normT l n
theorem normT_len (l : List Ru) : ∀ n, (normT l n).length ≤ n
  | 0 => Nat.le_refl _
  | n + 1 => by
    have ih := normT_len l n
    unfold normT
    split
    · simp; omega
    · omega
theorem normT_some {l : List Ru} {n : Nat} {r : Ru} (h : kindR l ((n + 1 : Nat) : Int) = some r) : normT l (n + 1) = normT l n ++ [r] := by rw [normT, h]
theorem normT_none {l : List Ru} {n : Nat} (h : kindR l ((n + 1 : Nat) : Int) = none) : normT l (n + 1) = normT l n := by rw [normT, h]
end Go.Proofs.Ytceilcdhflcbpaa.Ev

/- Code of the program's functions, as the small machine has it: written by mkcode.py. -/
namespace Go.Proofs.Ytceilcdhflcbpaa.Ev
set_option linter.all false
open Go
def c59 : CF := ⟨30, (.seq (.reg false [⟨(some 4), .none, (.mov (.c (.slice .none 0 0))), 0, []⟩]) (.seq (.seq (.reg false [⟨(some 6), .none, (.mov (.t 0)), 0, []⟩, ⟨(some 7), .none, (.call 34 [(.t 6)]), 1, []⟩, ⟨(some 8), .none, (.un .not (.t 7)), 2, []⟩, ⟨(some 9), .none, (.mov (.t 8)), 3, []⟩, ⟨(some 10), (.some (9, false)), (.mov (.t 1)), 4, []⟩, ⟨(some 11), (.some (9, false)), (.call 34 [(.t 10)]), 5, []⟩, ⟨(some 12), (.some (9, false)), (.un .not (.t 11)), 6, []⟩, ⟨(some 13), .none, (.pick (.t 9) (.c (.bool true)) (.t 12)), 7, []⟩, ⟨(some 14), .none, (.mov (.t 13)), 8, []⟩, ⟨(some 15), (.some (14, false)), (.mov (.t 0)), 9, []⟩, ⟨(some 16), (.some (14, false)), (.lenS (.t 15)), 10, []⟩, ⟨(some 17), (.some (14, false)), (.mov (.t 1)), 11, []⟩, ⟨(some 18), (.some (14, false)), (.lenS (.t 17)), 12, []⟩, ⟨(some 19), (.some (14, false)), (.bin .add (.t 16) (.t 18)), 13, []⟩, ⟨(some 20), (.some (14, false)), (.bin .gtr (.t 19) (.c (.int .i64 20))), 14, []⟩, ⟨(some 21), .none, (.pick (.t 14) (.c (.bool true)) (.t 20)), 15, []⟩]) (.cond (.t 21) (.seq (.reg false [⟨(some 22), .none, (.mkO 0 3 [(.int .i64 0), (.slice .none 0 0), (.int .i64 0)] []), 0, []⟩, ⟨(some 4), .none, (.mov (.t 22)), 1, []⟩]) .ret) .skip)) (.seq (.reg false [⟨(some 23), .none, (.mkO 0 3 [(.int .i64 0), (.slice .none 0 0), (.int .i64 0)] []), 0, []⟩, ⟨(some 24), .none, (.mov (.t 0)), 1, []⟩, ⟨(some 25), .none, (.app 3 40 (.t 23) (.t 24)), 2, []⟩, ⟨(some 5), .none, (.mov (.t 25)), 3, []⟩]) (.seq (.reg false [⟨(some 26), .none, (.mov (.t 5)), 0, []⟩, ⟨(some 27), .none, (.mov (.t 1)), 1, []⟩, ⟨(some 28), .none, (.app 3 40 (.t 26) (.t 27)), 2, []⟩, ⟨(some 29), .none, (.call 82 [(.t 28)]), 3, []⟩, ⟨(some 4), .none, (.mov (.t 29)), 4, []⟩]) .ret)))), [(.t 4)]⟩
theorem k59 : EE.fns 59 = some c59 := by kernel_rfl
def c82 : CF := ⟨28, (.seq (.reg false [⟨(some 2), .none, (.mov (.c (.slice .none 0 0))), 0, []⟩]) (.seq (.reg false [⟨(some 7), .none, (.mkO 0 3 [(.int .i64 0), (.slice .none 0 0), (.int .i64 0)] []), 0, []⟩, ⟨(some 3), .none, (.mov (.t 7)), 1, []⟩]) (.seq (.seq (.reg false [⟨(some 4), .none, (.mov (.c (.int .i64 1))), 0, []⟩]) (.block 0 (.loop (.seq (.seq (.reg false [⟨(some 8), .none, (.mov (.t 4)), 0, []⟩, ⟨(some 9), .none, (.bin .leq (.t 8) (.c (.int .i64 5))), 1, []⟩, ⟨(some 10), .none, (.mov (.t 9)), 2, []⟩, ⟨(some 11), (.some (10, true)), (.mov (.t 0)), 3, []⟩, ⟨(some 12), (.some (10, true)), (.call 34 [(.t 11)]), 4, []⟩, ⟨(some 13), .none, (.pick (.t 10) (.t 12) (.c (.bool false))), 5, []⟩]) (.cond (.t 13) .skip (.exit 0))) (.seq (.block 1 (.seq (.reg false [⟨(some 17), .none, (.mov (.t 0)), 0, []⟩, ⟨(some 18), .none, (.mov (.t 4)), 1, []⟩, ⟨(some 19), .none, (.call 66 [(.t 17), (.t 18)]), 2, []⟩, ⟨(some 16), .none, (.mov (.t 19)), 3, []⟩, ⟨(some 20), .none, (.ext (.t 16) 0), 4, []⟩, ⟨(some 21), .none, (.ext (.t 16) 1), 5, []⟩, ⟨(some 5), .none, (.newV [(.int .i64 0), (.slice .none 0 0), (.int .i64 0)]), 6, []⟩, ⟨.none, .none, (.store 3 (.t 5) (.t 20)), 7, []⟩, ⟨(some 6), .none, (.mov (.t 21)), 8, []⟩]) (.seq (.reg false [⟨(some 22), .none, (.mov (.t 6)), 0, []⟩]) (.cond (.t 22) (.reg false [⟨(some 23), .none, (.mov (.t 3)), 0, []⟩, ⟨(some 24), .none, (.load 3 true (.t 5)), 1, []⟩, ⟨(some 25), .none, (.mkV 1 3 [(.int .i64 0), (.slice .none 0 0), (.int .i64 0)] [(0, (.t 24))]), 2, []⟩, ⟨(some 26), .none, (.app 3 40 (.t 23) (.t 25)), 3, []⟩, ⟨(some 3), .none, (.mov (.t 26)), 4, []⟩]) .skip)))) (.reg false [⟨(some 14), .none, (.mov (.t 4)), 0, []⟩, ⟨(some 15), .none, (.bin .add (.t 14) (.c (.int .i64 1))), 1, []⟩, ⟨(some 4), .none, (.mov (.t 15)), 2, []⟩])))))) (.seq (.reg false [⟨(some 27), .none, (.mov (.t 3)), 0, []⟩, ⟨(some 2), .none, (.mov (.t 27)), 1, []⟩]) .ret)))), [(.t 2)]⟩
theorem k82 : EE.fns 82 = some c82 := by kernel_rfl
end Go.Proofs.Ytceilcdhflcbpaa.Ev

/- Rules in their short form, both ways; two rows together. -/
namespace Go.Proofs.Ytceilcdhflcbpaa.Ev
set_option linter.all false
open Go
set_option maxRecDepth 4000

def FreshR (H : Hp) (r : Value) (H' : Hp) (gs : List Ru) : Prop := H <+: H' ∧ ∃ l, RL H.length H' r l ∧ l.map (·.1) = gs
theorem RL.notin {N : Nat} {H : Hp} {v : Value} {l : List Rx} (h : RL N H v l) {w : Value} (ho : OwnS H.length w) (hN : N ≤ H.length) : ∀ j ∈ idsOf w, j ∉ idsOf v ∧ N ≤ j := fun j hj => by
  have := own_ge ho j hj
  exact ⟨fun hm => by have := h.sl.ids j hm; omega, by omega⟩
theorem RL.len_map {N : Nat} {H : Hp} {v : Value} {l : List Rx} {gs : List Ru} (_ : RL N H v l) (he : l.map (·.1) = gs) : l.length = gs.length := by rw [← he, List.length_map]
theorem normR_new {H : Hp} : FreshR H (.slice (some ⟨H.length, 0, some 3⟩) 0 (0 * 3)) (H ++ [[]]) [] := ⟨List.prefix_append _ _, [], RL.new, rfl⟩

theorem f82 {m : Md} {H : Hp} {v : Value} {l : List Ru} (hl : SlR H v l) (hok : rulesOk l = true) (hw : Wr m H) (hnr : m.nr = false) : Fun EE m 82 [v] H fun r H' => FreshR H r H' (normT l 5) := by
  refine fun_f rfl rfl k82 (by simp [c82]) ?_
  have p0 : H <+: H ++ [[]] := List.prefix_append _ _
  have s0 := RL.new (H := H)
  generalize hwv : Value.slice (some ⟨H.length, 0, some 3⟩) 0 (0 * 3) = wv0 at s0
  simp only [go_sem, ↓reduceIte, Nat.reduceEqDiff, reduceCtorEq, Nat.reduceAdd, Nat.reduceLeDiff, Nat.reduceMul, c82, fillL, hwv]
  refine go_for 5 (fun i s => H <+: s.H ∧ s.ρ 0 = .val v ∧ s.ρ 4 = .val (.int .i64 ((i + 1 : Nat) : Int)) ∧ ∃ wv L, s.ρ 3 = .val wv ∧ RL H.length s.H wv L ∧ L.map (·.1) = normT l i)
    (fun s => H <+: s.H ∧ ∃ wv L, s.ρ 3 = .val wv ∧ RL H.length s.H wv L ∧ L.map (·.1) = normT l 5) ?_ ?_ ?_
  · exact ⟨p0, by simp [upd, ini], by simp [upd], wv0, [], by simp [upd], s0, rfl⟩
  · rintro i s hi ⟨kH, k0, k4, wv, L, k3, sL, eL⟩
    have lk := hl.pre kH
    have wk := hw.pre kH
    have a34 := fun {m draw s' d ts Q} => callT_at (m := m) (draw := draw) (s := s') (d := d) (ts := ts) (Q := Q) (f34 lk)
    rw [hok] at a34
    simp only [go_sem, ↓reduceIte, Nat.reduceEqDiff, reduceCtorEq, Nat.reduceAdd, Nat.reduceLeDiff, Nat.reduceMul, k0, k3, k4]
    cases c1 : decide (((i + 1 : Nat) : Int) ≤ 5) <;> simp only [go_sem, ↓reduceIte, Nat.reduceEqDiff, reduceCtorEq, Nat.reduceAdd, Nat.reduceLeDiff, Nat.reduceMul, k0, k3, k4, c1, a34, wk]
    · have : i = 5 := by have := of_decide_eq_false c1; omega
      subst this
      exact ⟨kH, wv, L, rfl, sL, eL⟩
    have hi5 : i < 5 := by have := of_decide_eq_true c1; omega
    have w1 : IntKind.i64.wrap (((i + 1 : Nat) : Int) + 1) = ((i + 1 + 1 : Nat) : Int) := by rw [wrap64 _ (by omega) (by omega)]; omega
    refine callT_to (fun m' h => f66 (k := ((i + 1 : Nat) : Int)) lk hok h) rfl wk fun rv H2 ⟨w, er, p2, s2, o2⟩ => ?_
    subst er
    have p2 : s.H <+: H2 := p2
    have o2 : OwnS s.H.length w := o2
    have sL2 := sL.pre p2
    have hLl := sL.len_map eL
    have hnl := normT_len l i
    unfold vRu
    cases q : kindR l ((i + 1 : Nat) : Int) with
    | none =>
      rw [q] at s2
      simp only [go_sem, ↓reduceIte, Nat.reduceEqDiff, reduceCtorEq, Nat.reduceAdd, Nat.reduceLeDiff, Nat.reduceMul, k0, k3, k4, List.getElem?_toArray, ofV, exps, fillL, zeros_3, Option.isSome, w1]
      exact ⟨hi5, kH.trans p2, wv, L, rfl, sL2, by rw [normT_none q]; exact eL⟩
    | some r =>
      rw [q] at s2
      have s2 : SlI H2 w r.2.1 := s2
      have hkv : kv (some r) = r := rfl
      rw [hkv]
      obtain ⟨v3, H3, e1, e2, e3, e4, e5, e6⟩ := sL2.push (m := m) (a := r) (kH.trans p2).length_le s2 (fun j hj => ⟨(sL.notin o2 kH.length_le j hj).1, (sL.notin o2 kH.length_le j hj).2⟩) hw hnr (by omega)
      simp only [go_sem, ↓reduceIte, Nat.reduceEqDiff, reduceCtorEq, Nat.reduceAdd, Nat.reduceLeDiff, Nat.reduceMul, k0, k3, k4, List.getElem?_toArray, ofV, exps, fillL, zeros_3, Option.isSome, s2.vc]
      rw [e1]
      rotate_left
      · rfl
      · rfl
      · rfl
      simp only [go_sem, ↓reduceIte, Nat.reduceEqDiff, reduceCtorEq, Nat.reduceAdd, Nat.reduceLeDiff, Nat.reduceMul, k0, k3, k4, w1]
      exact ⟨hi5, e6 H (Nat.le_refl _) (kH.trans p2), v3, _, rfl, e2, by rw [normT_some q, List.map_append, eL]; rfl⟩
  · rintro s ⟨kH, wv, L, k3, sL, eL⟩
    simp only [go_sem, ↓reduceIte, Nat.reduceEqDiff, reduceCtorEq, Nat.reduceAdd, Nat.reduceLeDiff, Nat.reduceMul, k3]
    exact ⟨kH, L, sL, eL⟩
theorem f57 {m : Md} {H : Hp} {v : Value} {l : List Ru} (hl : SlR H v l) (hall : ∀ a ∈ l, rOk a = true) (hw : Wr m H) (hnr : m.nr = false) : Fun EE m 57 [v] H fun r H' => FreshR H r H' (normT l 5) := by
  refine fun_f rfl rfl k57 (by simp [c57]) ?_
  have hroom := hl.room
  have p0 : H <+: H ++ [[]] := List.prefix_append _ _
  have s0 := RL.new (H := H)
  generalize hwv : Value.slice (some ⟨H.length, 0, some 3⟩) 0 (0 * 3) = wv0 at s0
  simp only [go_sem, ↓reduceIte, Nat.reduceEqDiff, reduceCtorEq, Nat.reduceAdd, Nat.reduceLeDiff, Nat.reduceMul, c57, fillL, hwv]
  refine go_for 5 (fun i s => H <+: s.H ∧ s.ρ 0 = .val v ∧ s.ρ 4 = .val (.int .i64 ((i + 1 : Nat) : Int)) ∧ ∃ wv L, s.ρ 3 = .val wv ∧ RL H.length s.H wv L ∧ L.map (·.1) = normT l i)
    (fun s => H <+: s.H ∧ ∃ wv L, s.ρ 3 = .val wv ∧ RL H.length s.H wv L ∧ L.map (·.1) = normT l 5) ?_ ?_ ?_
  · exact ⟨p0, by simp [upd, ini], by simp [upd], wv0, [], by simp [upd], s0, rfl⟩
  · rintro n s hi ⟨kH, k0, k4, wv, L, k3, sL, eL⟩
    have lk := hl.pre kH
    simp only [go_sem, ↓reduceIte, Nat.reduceEqDiff, reduceCtorEq, Nat.reduceAdd, Nat.reduceLeDiff, Nat.reduceMul, k0, k3, k4, lk.len]
    cases c1 : decide (((n + 1 : Nat) : Int) ≤ 5) <;> simp only [go_sem, ↓reduceIte, Nat.reduceEqDiff, reduceCtorEq, Nat.reduceAdd, Nat.reduceLeDiff, Nat.reduceMul, k0, k3, k4, c1, lk.len]
    · have : n = 5 := by have := of_decide_eq_false c1; omega
      subst this
      exact ⟨kH, wv, L, rfl, sL, eL⟩
    have hi5 : n < 5 := by have := of_decide_eq_true c1; omega
    have w1 : IntKind.i64.wrap (((n + 1 : Nat) : Int) + 1) = ((n + 1 + 1 : Nat) : Int) := by rw [wrap64 _ (by omega) (by omega)]; omega
    have hnl := normT_len l n
    refine go_for l.length (fun i t => H <+: t.H ∧ t.ρ 0 = .val v ∧ t.ρ 4 = .val (.int .i64 ((n + 1 : Nat) : Int)) ∧ t.ρ 5 = .val (.bool (kindR (l.take i) ((n + 1 : Nat) : Int)).isSome) ∧ t.ρ 13 = .val v ∧ t.ρ 14 = .val (.int .i64 l.length) ∧ t.ρ 15 = .val (.int .i64 i) ∧ ∃ wv L, t.ρ 3 = .val wv ∧ RL H.length t.H wv L ∧ L.map (·.1) = normT l n ++ (kindR (l.take i) ((n + 1 : Nat) : Int)).toList)
      (fun t => H <+: t.H ∧ t.ρ 0 = .val v ∧ t.ρ 4 = .val (.int .i64 ((n + 1 : Nat) : Int)) ∧ ∃ wv L, t.ρ 3 = .val wv ∧ RL H.length t.H wv L ∧ L.map (·.1) = normT l n ++ (kindR l ((n + 1 : Nat) : Int)).toList) ?_ ?_ ?_
    · exact ⟨kH, by simp [upd, k0], by simp [upd, k4], by simp [upd, kindR], by simp [upd, k0], by simp [upd], by simp [upd], wv, L, by simp [upd, k3], sL, by simp [kindR, eL]⟩
    · clear k0 k3 k4 sL eL
      rintro i t hi ⟨tH, k0, k4, k5, k13, k14, k15, wv, L, k3, sL, eL⟩
      have lt := hl.pre tH
      have wt := hw.pre tH
      simp only [go_sem, ↓reduceIte, Nat.reduceEqDiff, reduceCtorEq, Nat.reduceAdd, Nat.reduceLeDiff, Nat.reduceMul, k0, k3, k4, k5, k13, k14, k15]
      cases d1 : decide ((i : Int) < (l.length : Int)) <;> simp only [go_sem, ↓reduceIte, Nat.reduceEqDiff, reduceCtorEq, Nat.reduceAdd, Nat.reduceLeDiff, Nat.reduceMul, k0, k3, k4, k5, k13, k14, k15, d1]
      · have : i = l.length := by have := of_decide_eq_false d1; omega
        subst this
        rw [List.take_length] at eL
        exact ⟨tH, wv, L, rfl, sL, eL⟩
      have hil : i < l.length := by have := of_decide_eq_true d1; omega
      have wi := wrap64 ((i : Int) + 1) (by omega) (by omega)
      obtain ⟨id, q, o, ho, ⟨w, hr, hs⟩, hp, hia⟩ := lt.elem (List.getElem?_eq_getElem hil)
      have hks := kind_succ (k := ((n + 1 : Nat) : Int)) hil
      have hrok := hall _ (List.getElem_mem hil)
      have hset := rOk_set hrok
      have hLl := sL.len_map eL
      simp only [go_sem, ↓reduceIte, Nat.reduceEqDiff, reduceCtorEq, Nat.reduceAdd, Nat.reduceLeDiff, Nat.reduceMul, k0, k3, k4, k5, k13, k14, k15, hia, ho, hr, hp, exps, fillL, zeros_3]
      cases qa : decide (l[i].1 = ((n + 1 : Nat) : Int)) <;> simp only [go_sem, ↓reduceIte, Nat.reduceEqDiff, reduceCtorEq, Nat.reduceAdd, Nat.reduceLeDiff, Nat.reduceMul, k0, k3, k4, k5, k13, k14, k15, qa, wi]
      · have e : kindR (l.take (i + 1)) ((n + 1 : Nat) : Int) = kindR (l.take i) ((n + 1 : Nat) : Int) := by rw [hks]; unfold stepS; rw [if_neg (of_decide_eq_false qa)]
        rw [e]
        exact ⟨hil, tH, rfl, by simp, wv, L, rfl, sL, eL⟩
      have hka := of_decide_eq_true qa
      cases qo : kindR (l.take i) ((n + 1 : Nat) : Int) with
      | none =>
        have e : kindR (l.take (i + 1)) ((n + 1 : Nat) : Int) = some (((n + 1 : Nat) : Int), l[i].2.1, l[i].2.2) := by rw [hks, qo]; unfold stepS; rw [if_pos hka]
        rw [qo] at eL hLl
        simp at eL hLl
        simp only [go_sem, ↓reduceIte, Nat.reduceEqDiff, reduceCtorEq, Nat.reduceAdd, Nat.reduceLeDiff, Nat.reduceMul, k0, k3, k4, k5, k13, k14, k15, qo, Option.isSome]
        refine go_draw ?_
        simp only [go_sem, ↓reduceIte, Nat.reduceEqDiff, reduceCtorEq, Nat.reduceAdd, Nat.reduceLeDiff, Nat.reduceMul, k0, k3, k4, k5, k13, k14, k15]
        refine callT_to (fun m' h => f81 hs (by omega) h) rfl wt fun y H2 ⟨p2, s2, o2⟩ => ?_
        have p2 : t.H <+: H2 := p2
        have o2 : OwnS t.H.length y := o2
        have sL2 := sL.pre p2
        obtain ⟨v3, H3, e1, e2, e3, e4, e5, e6⟩ := sL2.push (m := m) (a := (((n + 1 : Nat) : Int), l[i].2.1, l[i].2.2)) (tH.trans p2).length_le s2 (fun j hj => ⟨(sL.notin o2 tH.length_le j hj).1, (sL.notin o2 tH.length_le j hj).2⟩) hw hnr (by omega)
        simp only [go_sem, ↓reduceIte, Nat.reduceEqDiff, reduceCtorEq, Nat.reduceAdd, Nat.reduceLeDiff, Nat.reduceMul, k0, k3, k4, k5, k13, k14, k15, buildK, exps, fillL, zeros_3, s2.vc]
        rw [e1]
        rotate_left
        · rfl
        · rfl
        · rfl
        simp only [go_sem, ↓reduceIte, Nat.reduceEqDiff, reduceCtorEq, Nat.reduceAdd, Nat.reduceLeDiff, Nat.reduceMul, k0, k3, k4, k5, k13, k14, k15, wi]
        refine ⟨by rfl, ?_⟩
        rw [e]
        (try simp only [go_sem, ↓reduceIte, Nat.reduceEqDiff, reduceCtorEq, Nat.reduceAdd, Nat.reduceLeDiff, Nat.reduceMul, k0, k3, k4, k5, k13, k14, k15, wi])
        exact ⟨hil, e6 H (Nat.le_refl _) (tH.trans p2), by simp, v3, _, rfl, e2, by rw [List.map_append, eL]; rfl⟩
      | some r =>
        obtain ⟨hro, hrk⟩ := kind_ok hall i (by omega) r qo
        have hmb := meet_both hro hrok (by omega)
        have e : kindR (l.take (i + 1)) ((n + 1 : Nat) : Int) = some (meetS r l[i]) := by rw [hks, qo]; unfold stepS; rw [if_pos hka]
        rw [qo] at eL hLl
        have hLl : L.length = (normT l n).length + 1 := by simpa using hLl
        have eL : L.map (·.1) = normT l n ++ [r] := eL
        obtain ⟨j, hj⟩ : ∃ j, L.length = j + 1 := ⟨_, hLl⟩
        have wj : IntKind.i64.wrap ((L.length : Int) - 1) = (j : Int) := by rw [wrap64 _ (by omega) (by omega)]; omega
        have hjL : j < L.length := by omega
        have hLj : L[j].1 = r := by
          have : (L.map (·.1))[j]? = some r := by rw [eL, show j = (normT l n).length by omega]; simp
          rw [List.getElem?_map, List.getElem?_eq_getElem hjL] at this
          simpa using this
        have hsr := sL.part _ (List.getElem_mem hjL)
        rw [hLj] at hsr
        have hrset := rOk_set hro
        simp only [go_sem, ↓reduceIte, Nat.reduceEqDiff, reduceCtorEq, Nat.reduceAdd, Nat.reduceLeDiff, Nat.reduceMul, k0, k3, k4, k5, k13, k14, k15, qo, Option.isSome]
        refine go_draw ?_
        obtain ⟨id0, q1, o1, ho1, hp1, hn1, hv1, hR1, hia1, _⟩ := sL.put (a := r) (w := L[j].2) hjL hsr (sL.far _ (List.getElem_mem hjL))
        rw [hLj] at hR1
        simp only [go_sem, ↓reduceIte, Nat.reduceEqDiff, reduceCtorEq, Nat.reduceAdd, Nat.reduceLeDiff, Nat.reduceMul, k0, k3, k4, k5, k13, k14, k15, sL.sl.len, wj, hia1, ho1, hR1, hp1]
        have k80 := fun (m' : Md) (h : Wr m' t.H) => f80 (m := m') (a := r) (b := l[i]) hsr hs hrset.1 hset.1 h
        simp only [vRu] at k80
        refine callT_to k80 rfl wt fun rv H2 ⟨x2, er, p2, s2, o2⟩ => ?_
        subst er
        have p2 : t.H <+: H2 := p2
        have o2 : OwnS t.H.length x2 := o2
        rw [hmb.1] at s2 ⊢
        have sL2 := sL.pre p2
        obtain ⟨id1, q2, o3, ho3, hp3, hn3, hv3, hR3, hia3, hput⟩ := sL2.put (a := meetS r l[i]) (w := x2) hjL s2 (fun j hj => ⟨(sL.notin o2 tH.length_le j hj).1, (sL.notin o2 tH.length_le j hj).2⟩)
        have hw3 := hw id1 hn3
        unfold vRu
        simp only [go_sem, ↓reduceIte, Nat.reduceEqDiff, reduceCtorEq, Nat.reduceAdd, Nat.reduceLeDiff, Nat.reduceMul, k0, k3, k4, k5, k13, k14, k15]
        rw [hia3]
        rotate_left
        · rfl
        · rfl
        simp only [go_sem, ↓reduceIte, Nat.reduceEqDiff, reduceCtorEq, Nat.reduceAdd, Nat.reduceLeDiff, Nat.reduceMul, k0, k3, k4, k5, k13, k14, k15, ho3, hp3, hw3, hnr, s2.vc, Bool.false_eq_true, false_implies, wi]
        refine ⟨by rfl, ?_⟩
        rw [e]
        (try simp only [go_sem, ↓reduceIte, Nat.reduceEqDiff, reduceCtorEq, Nat.reduceAdd, Nat.reduceLeDiff, Nat.reduceMul, k0, k3, k4, k5, k13, k14, k15, wi])
        refine ⟨hil, pre_set (tH.trans p2) hn3, by rw [qo]; rfl, by simp, wv, _, rfl, hput, ?_⟩
        rw [List.map_set, eL, show j = (normT l n).length by omega]
        simp
    · clear k0 k3 k4 sL eL
      rintro t ⟨tH, k0, k4, wv, L, k3, sL, eL⟩
      simp only [go_sem, ↓reduceIte, Nat.reduceEqDiff, reduceCtorEq, Nat.reduceAdd, Nat.reduceLeDiff, Nat.reduceMul, k0, k3, k4, w1]
      refine ⟨hi5, tH, wv, L, rfl, sL, ?_⟩
      rw [eL]
      cases q : kindR l ((n + 1 : Nat) : Int) with
      | none => rw [normT_none q]; simp
      | some r => rw [normT_some q]; rfl
  · rintro s ⟨kH, wv, L, k3, sL, eL⟩
    simp only [go_sem, ↓reduceIte, Nat.reduceEqDiff, reduceCtorEq, Nat.reduceAdd, Nat.reduceLeDiff, Nat.reduceMul, k3]
    exact ⟨kH, L, sL, eL⟩
end Go.Proofs.Ytceilcdhflcbpaa.Ev

/- Rules: Normal, Joined, both ways; what allows nothing; what is stricter, the reference's way. -/
namespace Go.Proofs.Ytceilcdhflcbpaa.Ev
set_option linter.all false
open Go
set_option maxRecDepth 4000

theorem Sl.joinN {α : Type} {R : α → List Value → Prop} {esz : Nat} {m : Md} {N bytes : Nat} {H : Hp} {v u : Value} {l l2 : List α} (h : Sl R esz H v l) (h2 : Sl R esz H u l2) (ho : OwnS N v) (hN : N ≤ H.length) (hw : ∀ id, N ≤ id → m.wr id = true) (hnr : m.nr = false)
    (hb : (l.length + l2.length) * bytes ≤ Ev.room) (hb2 : l.length + l2.length ≤ Ev.room) :
    ∃ v' H', (∀ (s : St) (x y : X), s.H = H → exv s.ρ x = some v → ex s.ρ y = .val u → appK m s esz bytes x y = some (.val v', { s with H := H' })) ∧ Sl R esz H' v' (l ++ l2) ∧ OwnS N v' ∧
      (∀ j, j < H.length → j ∉ idsOf v → H'[j]? = H[j]?) ∧ H.length ≤ H'.length ∧ (∀ j ∈ idsOf v', j ∈ idsOf v ∨ H.length ≤ j) ∧ ∀ H0 : Hp, H0.length ≤ N → H0 <+: H → H0 <+: H' := by
  obtain ⟨cs, hsrc, hcs, hel⟩ := h2.src
  by_cases hn : l2.length = 0
  · have : l2 = [] := List.eq_nil_of_length_eq_zero hn
    subst this
    refine ⟨v, H, fun s x y hH hx hy => ?_, by simpa using h, ho, fun _ _ _ => rfl, Nat.le_refl _, fun j hj => .inl hj, fun _ _ h => h⟩
    subst hH
    unfold appK
    rw [hx, hy, hsrc]
    rcases h with ⟨rfl, _⟩ | ⟨_, _, _, _, rfl, _⟩ <;> rfl
  · obtain ⟨v', H', h1, h2'⟩ := h.app (m := m) (n := 1) (bytes := bytes) (l2 := l2) (cs := cs) ho hN hw (fun e => by rw [hnr] at e; cases e) (by omega) hcs hel hb hb2
    exact ⟨v', H', fun s x y hH hx hy => h1 s x y hH hx (by rw [hy]; exact hsrc), h2'⟩
theorem own_newR {H H0 : Hp} : Sl (RU H0) 3 (H ++ [[]]) (.slice (some ⟨H.length, 0, some 3⟩) 0 (0 * 3)) [] := .inr ⟨H.length, 0, 0, [], rfl, by simp, by simp, by simp, by simp, fun i a hi => by simp at hi⟩
theorem SlR.ofOld {H0 H : Hp} {v : Value} {l : List Ru} (h : Sl (RU H0) 3 H v l) (hp : H0 <+: H) : SlR H v l := h.frame (fun a _ cs ⟨w, e, hs⟩ => ⟨w, e, hs.pre hp⟩) fun _ _ _ _ _ _ => rfl
noncomputable def normR (l : List Ru) : List Ru := if rulesOk l = true then normT l 5 else []
noncomputable def joinB (a b : List Ru) : Bool := rulesOk a && (rulesOk b && decide (a.length + b.length ≤ 20))
noncomputable def joinR (a b : List Ru) : List Ru := if joinB a b = true then normT (a ++ b) 5 else []
theorem f29 {m : Md} {H : Hp} {v : Value} {l : List Ru} (hl : SlR H v l) (hw : Wr m H) (hnr : m.nr = false) : Fun EE m 29 [v] H fun r H' => FreshR H r H' (normR l) := by
  refine fun_f rfl rfl k29 (by simp [c29]) ?_
  have a56 := fun {m draw s d ts Q} => callT_at (m := m) (draw := draw) (s := s) (d := d) (ts := ts) (Q := Q) (f56 hl)
  simp only [go_sem, ↓reduceIte, Nat.reduceEqDiff, reduceCtorEq, Nat.reduceAdd, Nat.reduceLeDiff, Nat.reduceMul, c29, a56, hw]
  cases q : rulesOk l <;> simp only [go_sem, ↓reduceIte, Nat.reduceEqDiff, reduceCtorEq, Nat.reduceAdd, Nat.reduceLeDiff, Nat.reduceMul, q, fillL]
  · rw [show normR l = [] by unfold normR; rw [if_neg (by rw [q]; simp)]]
    exact normR_new
  · refine callT_now (f57 hl (rules_t.1 q).2 hw hnr) fun r H' h => ?_
    rw [show normR l = normT l 5 by unfold normR; rw [if_pos q]]
    simp only [go_sem, ↓reduceIte, Nat.reduceEqDiff, reduceCtorEq, Nat.reduceAdd, Nat.reduceLeDiff, Nat.reduceMul]
    exact h
theorem f30 {m : Md} {H : Hp} {v u : Value} {a b : List Ru} (ha : SlR H v a) (hb : SlR H u b) (hw : Wr m H) (hnr : m.nr = false) : Fun EE m 30 [v, u] H fun r H' => FreshR H r H' (joinR a b) := by
  refine fun_f rfl rfl k30 (by simp [c30]) ?_
  have hra := ha.room
  have hrb := hb.room
  have a56 := fun {m draw s d ts Q} => callT_at (m := m) (draw := draw) (s := s) (d := d) (ts := ts) (Q := Q) (f56 ha)
  have b56 := fun {m draw s d ts Q} => callT_at (m := m) (draw := draw) (s := s) (d := d) (ts := ts) (Q := Q) (f56 hb)
  have hno : joinB a b = false → FreshR H (.slice (some ⟨H.length, 0, some 3⟩) 0 (0 * 3)) (H ++ [[]]) (joinR a b) := fun h => by
    rw [show joinR a b = [] by unfold joinR; rw [if_neg (by rw [h]; simp)]]
    exact normR_new
  simp only [go_sem, ↓reduceIte, Nat.reduceEqDiff, reduceCtorEq, Nat.reduceAdd, Nat.reduceLeDiff, Nat.reduceMul, c30, a56, hw]
  cases qa : rulesOk a <;> simp only [go_sem, ↓reduceIte, Nat.reduceEqDiff, reduceCtorEq, Nat.reduceAdd, Nat.reduceLeDiff, Nat.reduceMul, qa, b56, hw, fillL]
  · exact hno (by unfold joinB; rw [qa]; rfl)
  cases qb : rulesOk b <;> simp only [go_sem, ↓reduceIte, Nat.reduceEqDiff, reduceCtorEq, Nat.reduceAdd, Nat.reduceLeDiff, Nat.reduceMul, qb, fillL, ha.len, hb.len]
  · exact hno (by unfold joinB; rw [qa, qb]; rfl)
  have hla := (rules_t.1 qa).1
  have hlb := (rules_t.1 qb).1
  have wl := wrap64 ((a.length : Int) + (b.length : Int)) (by omega) (by omega)
  simp only [go_sem, ↓reduceIte, Nat.reduceEqDiff, reduceCtorEq, Nat.reduceAdd, Nat.reduceLeDiff, Nat.reduceMul, wl]
  cases q2 : decide ((a.length : Int) + (b.length : Int) > 20) <;> simp only [go_sem, ↓reduceIte, Nat.reduceEqDiff, reduceCtorEq, Nat.reduceAdd, Nat.reduceLeDiff, Nat.reduceMul, q2, fillL]
  rotate_left
  · exact hno (by unfold joinB; rw [qa, qb, decide_eq_false (by have := of_decide_eq_true q2; omega)]; rfl)
  have h20 : a.length + b.length ≤ 20 := by have := of_decide_eq_false q2; omega
  have p0 : H <+: H ++ [[]] := List.prefix_append _ _
  have s0 := own_newR (H := H) (H0 := H)
  have o0 : OwnS H.length (.slice (some ⟨H.length, 0, some 3⟩) 0 (0 * 3)) := .inr ⟨_, _, _, _, rfl, Nat.le_refl _⟩
  obtain ⟨v1, H1, a1, a2, a3, _, a5, _, a7⟩ := s0.joinN (m := m) (N := H.length) (bytes := 40) (Sl.pre ha p0) o0 p0.length_le hw hnr (by unfold Ev.room; simp; omega) (by unfold Ev.room; simp; omega)
  have p1 : H <+: H1 := a7 H (Nat.le_refl _) p0
  obtain ⟨v2, H2, b1, b2, b3, _, b5, _, b7⟩ := a2.joinN (m := m) (N := H.length) (bytes := 40) (Sl.pre hb p1) a3 p1.length_le hw hnr (by unfold Ev.room; simp; omega) (by unfold Ev.room; simp; omega)
  have p2 : H <+: H2 := b7 H (Nat.le_refl _) p1
  rw [a1]
  rotate_left
  · rfl
  · rfl
  · rfl
  simp only [go_sem, ↓reduceIte, Nat.reduceEqDiff, reduceCtorEq, Nat.reduceAdd, Nat.reduceLeDiff, Nat.reduceMul]
  rw [b1]
  rotate_left
  · rfl
  · rfl
  · rfl
  simp only [go_sem, ↓reduceIte, Nat.reduceEqDiff, reduceCtorEq, Nat.reduceAdd, Nat.reduceLeDiff, Nat.reduceMul]
  rw [List.nil_append] at b2
  refine callT_now (f57 (SlR.ofOld b2 p2) (fun x hx => ?_) (hw.pre p2) hnr) fun r H' h => ?_
  · rcases List.mem_append.1 hx with hx | hx
    · exact (rules_t.1 qa).2 x hx
    · exact (rules_t.1 qb).2 x hx
  · rw [show joinR a b = normT (a ++ b) 5 by unfold joinR joinB; rw [if_pos (by rw [qa, qb, decide_eq_true h20]; rfl)]]
    simp only [go_sem, ↓reduceIte, Nat.reduceEqDiff, reduceCtorEq, Nat.reduceAdd, Nat.reduceLeDiff, Nat.reduceMul]
    obtain ⟨p3, L, hL, eL⟩ := h
    exact ⟨p2.trans p3, L, hL.mono p2.length_le, eL⟩
theorem f59 {m : Md} {H : Hp} {v u : Value} {a b : List Ru} (ha : SlR H v a) (hb : SlR H u b) (hw : Wr m H) (hnr : m.nr = false) : Fun EE m 59 [v, u] H fun r H' => FreshR H r H' (joinR a b) := by
  refine fun_f rfl rfl k59 (by simp [c59]) ?_
  have hra := ha.room
  have hrb := hb.room
  have a34 := fun {m draw s d ts Q} => callT_at (m := m) (draw := draw) (s := s) (d := d) (ts := ts) (Q := Q) (f34 ha)
  have b34 := fun {m draw s d ts Q} => callT_at (m := m) (draw := draw) (s := s) (d := d) (ts := ts) (Q := Q) (f34 hb)
  have hno : joinB a b = false → FreshR H (.slice (some ⟨H.length, 0, some 3⟩) 0 (0 * 3)) (H ++ [[]]) (joinR a b) := fun h => by
    rw [show joinR a b = [] by unfold joinR; rw [if_neg (by rw [h]; simp)]]
    exact normR_new
  simp only [go_sem, ↓reduceIte, Nat.reduceEqDiff, reduceCtorEq, Nat.reduceAdd, Nat.reduceLeDiff, Nat.reduceMul, c59, a34, hw]
  cases qa : rulesOk a <;> simp only [go_sem, ↓reduceIte, Nat.reduceEqDiff, reduceCtorEq, Nat.reduceAdd, Nat.reduceLeDiff, Nat.reduceMul, qa, b34, hw, fillL]
  · exact hno (by unfold joinB; rw [qa]; rfl)
  cases qb : rulesOk b <;> simp only [go_sem, ↓reduceIte, Nat.reduceEqDiff, reduceCtorEq, Nat.reduceAdd, Nat.reduceLeDiff, Nat.reduceMul, qb, fillL, ha.len, hb.len]
  · exact hno (by unfold joinB; rw [qa, qb]; rfl)
  have hla := (rules_t.1 qa).1
  have hlb := (rules_t.1 qb).1
  have wl := wrap64 ((a.length : Int) + (b.length : Int)) (by omega) (by omega)
  simp only [go_sem, ↓reduceIte, Nat.reduceEqDiff, reduceCtorEq, Nat.reduceAdd, Nat.reduceLeDiff, Nat.reduceMul, wl]
  cases q2 : decide ((a.length : Int) + (b.length : Int) > 20) <;> simp only [go_sem, ↓reduceIte, Nat.reduceEqDiff, reduceCtorEq, Nat.reduceAdd, Nat.reduceLeDiff, Nat.reduceMul, q2, fillL]
  rotate_left
  · exact hno (by unfold joinB; rw [qa, qb, decide_eq_false (by have := of_decide_eq_true q2; omega)]; rfl)
  have h20 : a.length + b.length ≤ 20 := by have := of_decide_eq_false q2; omega
  have p0 : H <+: H ++ [[]] := List.prefix_append _ _
  have s0 := own_newR (H := H) (H0 := H)
  have o0 : OwnS H.length (.slice (some ⟨H.length, 0, some 3⟩) 0 (0 * 3)) := .inr ⟨_, _, _, _, rfl, Nat.le_refl _⟩
  obtain ⟨v1, H1, a1, a2, a3, _, a5, _, a7⟩ := s0.joinN (m := m) (N := H.length) (bytes := 40) (Sl.pre ha p0) o0 p0.length_le hw hnr (by unfold Ev.room; simp; omega) (by unfold Ev.room; simp; omega)
  have p1 : H <+: H1 := a7 H (Nat.le_refl _) p0
  obtain ⟨v2, H2, b1, b2, b3, _, b5, _, b7⟩ := a2.joinN (m := m) (N := H.length) (bytes := 40) (Sl.pre hb p1) a3 p1.length_le hw hnr (by unfold Ev.room; simp; omega) (by unfold Ev.room; simp; omega)
  have p2 : H <+: H2 := b7 H (Nat.le_refl _) p1
  rw [a1]
  rotate_left
  · rfl
  · rfl
  · rfl
  simp only [go_sem, ↓reduceIte, Nat.reduceEqDiff, reduceCtorEq, Nat.reduceAdd, Nat.reduceLeDiff, Nat.reduceMul]
  rw [b1]
  rotate_left
  · rfl
  · rfl
  · rfl
  simp only [go_sem, ↓reduceIte, Nat.reduceEqDiff, reduceCtorEq, Nat.reduceAdd, Nat.reduceLeDiff, Nat.reduceMul]
  rw [List.nil_append] at b2
  have hok2 : rulesOk (a ++ b) = true := rules_t.2 ⟨by simp; omega, fun x hx => by
    rcases List.mem_append.1 hx with hx | hx
    · exact (rules_t.1 qa).2 x hx
    · exact (rules_t.1 qb).2 x hx⟩
  refine callT_now (f82 (SlR.ofOld b2 p2) hok2 (hw.pre p2) hnr) fun r H' h => ?_
  rw [show joinR a b = normT (a ++ b) 5 by unfold joinR joinB; rw [if_pos (by rw [qa, qb, decide_eq_true h20]; rfl)]]
  simp only [go_sem, ↓reduceIte, Nat.reduceEqDiff, reduceCtorEq, Nat.reduceAdd, Nat.reduceLeDiff, Nat.reduceMul]
  obtain ⟨p3, L, hL, eL⟩ := h
  exact ⟨p2.trans p3, L, hL.mono p2.length_le, eL⟩

/-- Does the rule of a kind allow nothing? -/
def nothK (l : List Ru) (k : Int) : Bool := match kindR l k with | some r => (decide (k ≤ 2) && decide ((r.2.1.length : Int) = 0)) || (decide (k = 5) && decide (r.2.2 = 0)) | none => false
def nothR (l : List Ru) : Bool := (List.range 5).any fun n => nothK l ((n + 1 : Nat) : Int)
theorem range_any {p : Nat → Bool} {n : Nat} (h : n < 5) (hp : p n = true) : (List.range 5).any p = true := List.any_eq_true.2 ⟨n, List.mem_range.2 h, hp⟩
theorem f65 {m : Md} {H : Hp} {v : Value} {l : List Ru} (hl : SlR H v l) (hok : rulesOk l = true) (hw : Wr m H) : Fun EE m 65 [v] H fun r H' => r = .bool (nothR l) ∧ H <+: H' := by
  refine fun_f rfl rfl k65 (by simp [c65]) ?_
  simp only [go_sem, ↓reduceIte, Nat.reduceEqDiff, reduceCtorEq, Nat.reduceAdd, Nat.reduceLeDiff, Nat.reduceMul, c65]
  refine go_for 5 (fun i s => H <+: s.H ∧ s.ρ 0 = .val v ∧ s.ρ 3 = .val (.int .i64 ((i + 1 : Nat) : Int)) ∧ ∀ j, j < i → nothK l ((j + 1 : Nat) : Int) = false)
    (fun s => H <+: s.H ∧ ∀ j, j < 5 → nothK l ((j + 1 : Nat) : Int) = false) ?_ ?_ ?_
  · exact ⟨List.prefix_refl _, by simp [upd, ini], by simp [upd], fun j hj => by omega⟩
  · rintro i s hi ⟨kH, k0, k3, hn⟩
    have lk := hl.pre kH
    have wk := hw.pre kH
    simp only [go_sem, ↓reduceIte, Nat.reduceEqDiff, reduceCtorEq, Nat.reduceAdd, Nat.reduceLeDiff, Nat.reduceMul, k0, k3]
    cases c1 : decide (((i + 1 : Nat) : Int) ≤ 5) <;> simp only [go_sem, ↓reduceIte, Nat.reduceEqDiff, reduceCtorEq, Nat.reduceAdd, Nat.reduceLeDiff, Nat.reduceMul, k0, k3, c1]
    · have : i = 5 := by have := of_decide_eq_false c1; omega
      subst this
      exact ⟨kH, hn⟩
    have hi5 : i < 5 := by have := of_decide_eq_true c1; omega
    have w1 : IntKind.i64.wrap (((i + 1 : Nat) : Int) + 1) = ((i + 1 + 1 : Nat) : Int) := by rw [wrap64 _ (by omega) (by omega)]; omega
    refine callT_to (fun m' h => f66 (k := ((i + 1 : Nat) : Int)) lk hok h) rfl wk fun rv H2 ⟨w, er, p2, s2, o2⟩ => ?_
    subst er
    have p2 : s.H <+: H2 := p2
    have next : nothK l ((i + 1 : Nat) : Int) = false → ∀ j, j < i + 1 → nothK l ((j + 1 : Nat) : Int) = false := fun h j hj => by
      by_cases e : j = i
      · subst e; exact h
      · exact hn j (by omega)
    have yes : nothK l ((i + 1 : Nat) : Int) = true → nothR l = true := fun h => range_any hi5 h
    unfold vRu
    cases q : kindR l ((i + 1 : Nat) : Int) with
    | none =>
      rw [q] at s2
      simp only [go_sem, ↓reduceIte, Nat.reduceEqDiff, reduceCtorEq, Nat.reduceAdd, Nat.reduceLeDiff, Nat.reduceMul, k0, k3, List.getElem?_toArray, ofV, exps, fillL, zeros_3, Option.isSome, w1]
      exact ⟨hi5, kH.trans p2, next (by unfold nothK; rw [q])⟩
    | some r =>
      rw [q] at s2
      have s2 : SlI H2 w r.2.1 := s2
      have hkv : kv (some r) = r := rfl
      rw [hkv]
      have hK : nothK l ((i + 1 : Nat) : Int) = ((decide (((i + 1 : Nat) : Int) ≤ 2) && decide ((r.2.1.length : Int) = 0)) || (decide (((i + 1 : Nat) : Int) = 5) && decide (r.2.2 = 0))) := by unfold nothK; rw [q]
      simp only [go_sem, ↓reduceIte, Nat.reduceEqDiff, reduceCtorEq, Nat.reduceAdd, Nat.reduceLeDiff, Nat.reduceMul, k0, k3, List.getElem?_toArray, ofV, exps, fillL, zeros_3, Option.isSome]
      cases q2 : decide (((i + 1 : Nat) : Int) ≤ 2) <;> simp only [go_sem, ↓reduceIte, Nat.reduceEqDiff, reduceCtorEq, Nat.reduceAdd, Nat.reduceLeDiff, Nat.reduceMul, k0, k3, q2, s2.len]
      · cases q5 : decide (((i + 1 : Nat) : Int) = 5) <;> simp only [go_sem, ↓reduceIte, Nat.reduceEqDiff, reduceCtorEq, Nat.reduceAdd, Nat.reduceLeDiff, Nat.reduceMul, k0, k3, q5, w1]
        · exact ⟨hi5, kH.trans p2, next (by rw [hK, q2, q5]; rfl)⟩
        · cases q6 : decide (r.2.2 = 0) <;> simp only [go_sem, ↓reduceIte, Nat.reduceEqDiff, reduceCtorEq, Nat.reduceAdd, Nat.reduceLeDiff, Nat.reduceMul, k0, k3, q6, w1]
          · exact ⟨hi5, kH.trans p2, next (by rw [hK, q2, q5, q6]; rfl)⟩
          · exact ⟨(yes (by rw [hK, q2, q5, q6]; rfl)).symm, kH.trans p2⟩
      · cases q4 : decide ((r.2.1.length : Int) = 0) <;> simp only [go_sem, ↓reduceIte, Nat.reduceEqDiff, reduceCtorEq, Nat.reduceAdd, Nat.reduceLeDiff, Nat.reduceMul, k0, k3, q4, w1]
        · cases q5 : decide (((i + 1 : Nat) : Int) = 5) <;> simp only [go_sem, ↓reduceIte, Nat.reduceEqDiff, reduceCtorEq, Nat.reduceAdd, Nat.reduceLeDiff, Nat.reduceMul, k0, k3, q5, w1]
          · exact ⟨hi5, kH.trans p2, next (by rw [hK, q2, q4, q5]; rfl)⟩
          · have a := of_decide_eq_true q5
            have b := of_decide_eq_true q2
            omega
        · exact ⟨(yes (by rw [hK, q2, q4]; rfl)).symm, kH.trans p2⟩
  · rintro s ⟨kH, hn⟩
    simp only [go_sem, ↓reduceIte, Nat.reduceEqDiff, reduceCtorEq, Nat.reduceAdd, Nat.reduceLeDiff, Nat.reduceMul]
    refine ⟨?_, kH⟩
    rw [show nothR l = false from List.any_eq_false.2 fun n hnn => by rw [hn n (List.mem_range.1 hnn)]; simp]
end Go.Proofs.Ytceilcdhflcbpaa.Ev

/- Rules: what is stricter, the reference's way. -/
namespace Go.Proofs.Ytceilcdhflcbpaa.Ev
set_option linter.all false
open Go
set_option maxRecDepth 4000

def sub2 (o : Option Ru) (y : Ru) : Bool := match o with | none => false | some x => subI x.2.1 y.2.1
def les2 (o : Option Ru) (y : Ru) : Bool := match o with | none => false | some x => !decide (x.2.2 > y.2.2)
def srY (o : Option Ru) (k : Int) (y : Ru) : Bool := if k ≤ 2 then sub2 o y else if k = 3 then subI y.2.1 (kv o).2.1 else les2 o y
def srK (a b : List Ru) (k : Int) : Bool := match kindR b k with
  | none => true
  | some y => srY (kindR a k) k y
noncomputable def srR (a b : List Ru) : Bool := rulesOk a && (rulesOk b && (nothR a || (List.range 5).all fun n => srK a b ((n + 1 : Nat) : Int)))
theorem f33 {m : Md} {H : Hp} {v u : Value} {a b : List Ru} (ha : SlR H v a) (hb : SlR H u b) (hw : Wr m H) : Fun EE m 33 [v, u] H fun r H' => r = .bool (srR a b) ∧ H <+: H' := by
  refine fun_f rfl rfl k33 (by simp [c33]) ?_
  have a34 := fun {m draw s d ts Q} => callT_at (m := m) (draw := draw) (s := s) (d := d) (ts := ts) (Q := Q) (f34 ha)
  have b34 := fun {m draw s d ts Q} => callT_at (m := m) (draw := draw) (s := s) (d := d) (ts := ts) (Q := Q) (f34 hb)
  simp only [go_sem, ↓reduceIte, Nat.reduceEqDiff, reduceCtorEq, Nat.reduceAdd, Nat.reduceLeDiff, Nat.reduceMul, c33, a34, hw]
  cases qa : rulesOk a <;> simp only [go_sem, ↓reduceIte, Nat.reduceEqDiff, reduceCtorEq, Nat.reduceAdd, Nat.reduceLeDiff, Nat.reduceMul, qa, b34, hw]
  · exact ⟨by unfold srR; rw [qa]; rfl, List.prefix_refl _⟩
  cases qb : rulesOk b <;> simp only [go_sem, ↓reduceIte, Nat.reduceEqDiff, reduceCtorEq, Nat.reduceAdd, Nat.reduceLeDiff, Nat.reduceMul, qb]
  · exact ⟨by unfold srR; rw [qa, qb]; rfl, List.prefix_refl _⟩
  refine callT_to (fun m' h => f65 ha qa h) rfl hw fun rv H1 ⟨er, p1⟩ => ?_
  subst er
  have p1 : H <+: H1 := p1
  cases qn : nothR a <;> simp only [go_sem, ↓reduceIte, Nat.reduceEqDiff, reduceCtorEq, Nat.reduceAdd, Nat.reduceLeDiff, Nat.reduceMul, qn]
  rotate_left
  · exact ⟨by unfold srR; rw [qa, qb, qn]; rfl, p1⟩
  refine go_for 5 (fun i s => H <+: s.H ∧ s.ρ 0 = .val v ∧ s.ρ 1 = .val u ∧ s.ρ 5 = .val (.int .i64 ((i + 1 : Nat) : Int)) ∧ ∀ j, j < i → srK a b ((j + 1 : Nat) : Int) = true)
    (fun s => H <+: s.H ∧ ∀ j, j < 5 → srK a b ((j + 1 : Nat) : Int) = true) ?_ ?_ ?_
  · exact ⟨p1, by simp [upd, ini], by simp [upd, ini], by simp [upd], fun j hj => by omega⟩
  · rintro i s hi ⟨kH, k0, k1, k5, hn⟩
    have ka := ha.pre kH
    have kb := hb.pre kH
    have wk := hw.pre kH
    simp only [go_sem, ↓reduceIte, Nat.reduceEqDiff, reduceCtorEq, Nat.reduceAdd, Nat.reduceLeDiff, Nat.reduceMul, k0, k1, k5]
    cases c1 : decide (((i + 1 : Nat) : Int) ≤ 5) <;> simp only [go_sem, ↓reduceIte, Nat.reduceEqDiff, reduceCtorEq, Nat.reduceAdd, Nat.reduceLeDiff, Nat.reduceMul, k0, k1, k5, c1]
    · have : i = 5 := by have := of_decide_eq_false c1; omega
      subst this
      exact ⟨kH, hn⟩
    have hi5 : i < 5 := by have := of_decide_eq_true c1; omega
    have w1 : IntKind.i64.wrap (((i + 1 : Nat) : Int) + 1) = ((i + 1 + 1 : Nat) : Int) := by rw [wrap64 _ (by omega) (by omega)]; omega
    have next : srK a b ((i + 1 : Nat) : Int) = true → ∀ j, j < i + 1 → srK a b ((j + 1 : Nat) : Int) = true := fun h j hj => by
      by_cases e : j = i
      · subst e; exact h
      · exact hn j (by omega)
    have bad : srK a b ((i + 1 : Nat) : Int) = false → srR a b = false := fun h => by
      unfold srR
      rw [qa, qb, qn, show ((List.range 5).all fun n => srK a b ((n + 1 : Nat) : Int)) = false from List.all_eq_false.2 ⟨i, List.mem_range.2 hi5, by rw [h]; simp⟩]
      rfl
    refine callT_to (fun m' h => f66 (k := ((i + 1 : Nat) : Int)) ka qa h) rfl wk fun rv H2 ⟨w, er, p2, s2, o2⟩ => ?_
    subst er
    have p2 : s.H <+: H2 := p2
    have w2 := wk.pre p2
    unfold vRu
    simp only [go_sem, ↓reduceIte, Nat.reduceEqDiff, reduceCtorEq, Nat.reduceAdd, Nat.reduceLeDiff, Nat.reduceMul, k0, k1, k5, List.getElem?_toArray, ofV, exps, fillL, zeros_3]
    refine callT_to (fun m' h => f66 (k := ((i + 1 : Nat) : Int)) (kb.pre p2) qb h) rfl w2 fun rv H3 ⟨z, er, p3, s3, o3⟩ => ?_
    subst er
    have p3 : H2 <+: H3 := p3
    have w3 := w2.pre p3
    have s2' := s2.pre p3
    have pp : H <+: H3 := kH.trans (p2.trans p3)
    have c67 := fun {m draw s d ts Q} => callT_at (m := m) (draw := draw) (s := s) (d := d) (ts := ts) (Q := Q) (f67 s2' s3)
    have d67 := fun {m draw s d ts Q} => callT_at (m := m) (draw := draw) (s := s) (d := d) (ts := ts) (Q := Q) (f67 s3 s2')
    generalize hx : kindR a ((i + 1 : Nat) : Int) = ox at *
    cases qy : kindR b ((i + 1 : Nat) : Int) with
    | none =>
      unfold vRu
      simp only [go_sem, ↓reduceIte, Nat.reduceEqDiff, reduceCtorEq, Nat.reduceAdd, Nat.reduceLeDiff, Nat.reduceMul, k0, k1, k5, List.getElem?_toArray, ofV, exps, fillL, zeros_3, Option.isSome, w1]
      exact ⟨hi5, pp, next (by unfold srK; rw [qy])⟩
    | some y =>
      rw [qy] at s3 c67 d67
      have hK : srK a b ((i + 1 : Nat) : Int) = srY ox ((i + 1 : Nat) : Int) y := by subst hx; unfold srK; rw [qy]
      unfold srY at hK
      have hkv : kv (some y) = y := rfl
      rw [hkv] at c67 d67
      unfold vRu
      rw [hkv]
      simp only [go_sem, ↓reduceIte, Nat.reduceEqDiff, reduceCtorEq, Nat.reduceAdd, Nat.reduceLeDiff, Nat.reduceMul, k0, k1, k5, List.getElem?_toArray, ofV, exps, fillL, zeros_3, Option.isSome]
      by_cases hk2 : ((i + 1 : Nat) : Int) ≤ 2
      · rw [if_pos hk2] at hK
        have fin : ∀ {Q : Prop}, (decide (((i + 1 : Nat) : Int) = 1) = true → Q) → (decide (((i + 1 : Nat) : Int) = 1) = false → decide (((i + 1 : Nat) : Int) = 2) = true → Q) → Q := fun {Q} f1 f2 => by
          by_cases e : ((i + 1 : Nat) : Int) = 1
          · exact f1 (decide_eq_true e)
          · exact f2 (decide_eq_false e) (decide_eq_true (by omega))
        cases ox with
        | none =>
          refine fin (fun d1 => ?_) (fun d1 d2 => ?_)
          · simp only [go_sem, ↓reduceIte, Nat.reduceEqDiff, reduceCtorEq, Nat.reduceAdd, Nat.reduceLeDiff, Nat.reduceMul, k0, k1, k5, d1]
            exact ⟨(bad hK).symm, pp⟩
          · simp only [go_sem, ↓reduceIte, Nat.reduceEqDiff, reduceCtorEq, Nat.reduceAdd, Nat.reduceLeDiff, Nat.reduceMul, k0, k1, k5, d1, d2]
            exact ⟨(bad hK).symm, pp⟩
        | some x =>
          have hkx : kv (some x) = x := rfl
          rw [hkx] at c67
          cases qs : subI x.2.1 y.2.1
          · rw [qs] at c67
            have hK : srK a b ((i + 1 : Nat) : Int) = false := hK.trans qs
            refine fin (fun d1 => ?_) (fun d1 d2 => ?_)
            · simp only [go_sem, ↓reduceIte, Nat.reduceEqDiff, reduceCtorEq, Nat.reduceAdd, Nat.reduceLeDiff, Nat.reduceMul, k0, k1, k5, d1, c67, w3]
              exact ⟨(bad hK).symm, pp⟩
            · simp only [go_sem, ↓reduceIte, Nat.reduceEqDiff, reduceCtorEq, Nat.reduceAdd, Nat.reduceLeDiff, Nat.reduceMul, k0, k1, k5, d1, d2, c67, w3]
              exact ⟨(bad hK).symm, pp⟩
          · rw [qs] at c67
            have hK : srK a b ((i + 1 : Nat) : Int) = true := hK.trans qs
            refine fin (fun d1 => ?_) (fun d1 d2 => ?_)
            · simp only [go_sem, ↓reduceIte, Nat.reduceEqDiff, reduceCtorEq, Nat.reduceAdd, Nat.reduceLeDiff, Nat.reduceMul, k0, k1, k5, d1, c67, w3, w1]
              exact ⟨hi5, pp, next hK⟩
            · simp only [go_sem, ↓reduceIte, Nat.reduceEqDiff, reduceCtorEq, Nat.reduceAdd, Nat.reduceLeDiff, Nat.reduceMul, k0, k1, k5, d1, d2, c67, w3, w1]
              exact ⟨hi5, pp, next hK⟩
      · rw [if_neg hk2] at hK
        have d1 : decide (((i + 1 : Nat) : Int) = 1) = false := decide_eq_false (by omega)
        have d2 : decide (((i + 1 : Nat) : Int) = 2) = false := decide_eq_false (by omega)
        by_cases hk3 : ((i + 1 : Nat) : Int) = 3
        · rw [if_pos hk3] at hK
          have d3 : decide (((i + 1 : Nat) : Int) = 3) = true := decide_eq_true hk3
          cases qs : subI y.2.1 (kv ox).2.1
          · rw [qs] at d67
            simp only [go_sem, ↓reduceIte, Nat.reduceEqDiff, reduceCtorEq, Nat.reduceAdd, Nat.reduceLeDiff, Nat.reduceMul, k0, k1, k5, d1, d2, d3, d67, w3]
            exact ⟨(bad (hK.trans qs)).symm, pp⟩
          · rw [qs] at d67
            simp only [go_sem, ↓reduceIte, Nat.reduceEqDiff, reduceCtorEq, Nat.reduceAdd, Nat.reduceLeDiff, Nat.reduceMul, k0, k1, k5, d1, d2, d3, d67, w3, w1]
            exact ⟨hi5, pp, next (hK.trans qs)⟩
        · rw [if_neg hk3] at hK
          have d3 : decide (((i + 1 : Nat) : Int) = 3) = false := decide_eq_false hk3
          cases ox with
          | none =>
            simp only [go_sem, ↓reduceIte, Nat.reduceEqDiff, reduceCtorEq, Nat.reduceAdd, Nat.reduceLeDiff, Nat.reduceMul, k0, k1, k5, d1, d2, d3]
            exact ⟨(bad hK).symm, pp⟩
          | some x =>
            have hkx : kv (some x) = x := rfl
            cases qs : decide (x.2.2 > y.2.2)
            · have hK : srK a b ((i + 1 : Nat) : Int) = true := hK.trans (by show (!decide (x.2.2 > y.2.2)) = true; rw [qs]; rfl)
              simp only [go_sem, ↓reduceIte, Nat.reduceEqDiff, reduceCtorEq, Nat.reduceAdd, Nat.reduceLeDiff, Nat.reduceMul, k0, k1, k5, d1, d2, d3, hkx, qs, w1]
              exact ⟨hi5, pp, next hK⟩
            · have hK : srK a b ((i + 1 : Nat) : Int) = false := hK.trans (by show (!decide (x.2.2 > y.2.2)) = false; rw [qs]; rfl)
              simp only [go_sem, ↓reduceIte, Nat.reduceEqDiff, reduceCtorEq, Nat.reduceAdd, Nat.reduceLeDiff, Nat.reduceMul, k0, k1, k5, d1, d2, d3, hkx, qs]
              exact ⟨(bad hK).symm, pp⟩
  · rintro s ⟨kH, hn⟩
    simp only [go_sem, ↓reduceIte, Nat.reduceEqDiff, reduceCtorEq, Nat.reduceAdd, Nat.reduceLeDiff, Nat.reduceMul]
    refine ⟨?_, kH⟩
    unfold srR
    rw [qa, qb, qn, show ((List.range 5).all fun n => srK a b ((n + 1 : Nat) : Int)) = true from List.all_eq_true.2 fun n hnn => hn n (List.mem_range.1 hnn)]
    rfl
end Go.Proofs.Ytceilcdhflcbpaa.Ev

/- Rules: what is stricter, the program's way. -/
namespace Go.Proofs.Ytceilcdhflcbpaa.Ev
set_option linter.all false
open Go
set_option maxRecDepth 4000

theorem norm_mem {l : List Ru} {r : Ru} : ∀ {n : Nat}, r ∈ normT l n ↔ ∃ j : Nat, j < n ∧ kindR l ((j + 1 : Nat) : Int) = some r
  | 0 => by simp [normT]
  | n + 1 => by
    cases q : kindR l ((n + 1 : Nat) : Int) with
    | none =>
      rw [normT_none q, norm_mem]
      constructor
      · rintro ⟨j, h1, h2⟩; exact ⟨j, by omega, h2⟩
      · rintro ⟨j, h1, h2⟩
        by_cases e : j = n
        · subst e; rw [q] at h2; cases h2
        · exact ⟨j, by omega, h2⟩
    | some r0 =>
      rw [normT_some q, List.mem_append, List.mem_singleton, norm_mem]
      constructor
      · rintro (⟨j, h1, h2⟩ | h)
        · exact ⟨j, by omega, h2⟩
        · subst h; exact ⟨n, by omega, q⟩
      · rintro ⟨j, h1, h2⟩
        by_cases e : j = n
        · subst e; rw [q] at h2; cases h2; exact .inr rfl
        · exact .inl ⟨j, by omega, h2⟩
theorem kind_all {l : List Ru} {k : Int} {r : Ru} (hall : ∀ a ∈ l, rOk a = true) (h : kindR l k = some r) : rOk r = true ∧ r.1 = k := kind_ok hall l.length (Nat.le_refl _) r (by rw [List.take_length]; exact h)
theorem norm_at {l : List Ru} {r : Ru} (hall : ∀ a ∈ l, rOk a = true) : r ∈ normT l 5 ↔ kindR l r.1 = some r := by
  rw [norm_mem]
  constructor
  · rintro ⟨j, h1, h2⟩
    have := (kind_all hall h2).2
    rw [this]; exact h2
  · intro h
    have := rOk_kind (kind_all hall h).1
    obtain ⟨j, hj⟩ : ∃ j : Nat, r.1 = ((j + 1 : Nat) : Int) := ⟨(r.1 - 1).toNat, by omega⟩
    rw [hj] at h
    exact ⟨j, by omega, h⟩
def nothU (r : Ru) : Bool := (decide (r.1 ≤ 2) && decide ((r.2.1.length : Int) = 0)) || (decide (r.1 = 5) && decide (r.2.2 = 0))
theorem noth_any {l : List Ru} (hall : ∀ a ∈ l, rOk a = true) : (normT l 5).any nothU = nothR l := by
  rw [Bool.eq_iff_iff]
  unfold nothR
  rw [List.any_eq_true, List.any_eq_true]
  constructor
  · rintro ⟨r, hr, h⟩
    obtain ⟨j, h1, h2⟩ := norm_mem.1 hr
    refine ⟨j, List.mem_range.2 h1, ?_⟩
    have := (kind_all hall h2).2
    unfold nothK
    rw [h2, ← this]
    exact h
  · rintro ⟨j, h1, h⟩
    unfold nothK at h
    split at h
    · rename_i r h2
      refine ⟨r, norm_mem.2 ⟨j, List.mem_range.1 h1, h2⟩, ?_⟩
      have := (kind_all hall h2).2
      unfold nothU
      rw [this]
      exact h
    · cases h
theorem sr_all {a b : List Ru} (hb : ∀ x ∈ b, rOk x = true) : ((normT b 5).all fun r => srY (kindR a r.1) r.1 r) = (List.range 5).all fun n => srK a b ((n + 1 : Nat) : Int) := by
  rw [Bool.eq_iff_iff, List.all_eq_true, List.all_eq_true]
  constructor
  · intro h j hj
    unfold srK
    split
    · rfl
    · rename_i y h2
      have e := (kind_all hb h2).2
      have := h y (norm_mem.2 ⟨j, List.mem_range.1 hj, h2⟩)
      rw [e] at this
      exact this
  · intro h r hr
    obtain ⟨j, h1, h2⟩ := norm_mem.1 hr
    have := h j (List.mem_range.2 h1)
    unfold srK at this
    rw [h2] at this
    rw [(kind_all hb h2).2]
    exact this
/-- The program's question. -/
def imQ (o : Option Ru) (r : Ru) : Bool := if r.1 = 3 then subI r.2.1 (kv o).2.1 else match o with | none => false | some x => !decide (x.2.2 > r.2.2) && subI x.2.1 r.2.1
theorem im_sr {a : List Ru} {r : Ru} (ha : ∀ x ∈ a, rOk x = true) (hr : rOk r = true) : imQ (kindR a r.1) r = srY (kindR a r.1) r.1 r := by
  obtain ⟨g1, g2⟩ := rOk_kind hr
  unfold imQ srY
  by_cases h3 : r.1 = 3
  · rw [if_pos h3, if_neg (by omega), if_pos h3]
  · rw [if_neg h3]
    cases q : kindR a r.1 with
    | none =>
      show false = _
      by_cases h2 : r.1 ≤ 2
      · rw [if_pos h2]; rfl
      · rw [if_neg h2, if_neg h3]; rfl
    | some x =>
      obtain ⟨hx, ex⟩ := kind_all ha q
      by_cases h2 : r.1 ≤ 2
      · rw [if_pos h2]
        have e1 := ((rOk_low g1 (by omega)).1 hr).1
        have e2 := ((rOk_low (a := x) (by omega) (by omega)).1 hx).1
        show (!decide (x.2.2 > r.2.2) && subI x.2.1 r.2.1) = subI x.2.1 r.2.1
        rw [e1, e2]
        rfl
      · rw [if_neg h2, if_neg h3]
        have e2 := ((rOk_high (a := x) (by omega) (by omega)).1 hx).1
        show (!decide (x.2.2 > r.2.2) && subI x.2.1 r.2.1) = !decide (x.2.2 > r.2.2)
        rw [e2]
        show (_ && true) = _
        rw [Bool.and_true]
theorem f61 {H : Hp} {w : Value} {r : Ru} (hs : SlI H w r.2.1) : Scal EE 61 [vRu r w] H (.bool (nothU r)) := by
  refine scal_ok rfl rfl k61 (by simp [c61]) rfl fun m hw => ?_
  unfold vRu
  simp only [go_sem, ↓reduceIte, Nat.reduceEqDiff, reduceCtorEq, Nat.reduceAdd, Nat.reduceLeDiff, Nat.reduceMul, c61]
  cases q1 : decide (r.1 ≤ 2) <;> simp only [go_sem, ↓reduceIte, Nat.reduceEqDiff, reduceCtorEq, Nat.reduceAdd, Nat.reduceLeDiff, Nat.reduceMul, q1, hs.len]
  · cases q3 : decide (r.1 = 5) <;> simp only [go_sem, ↓reduceIte, Nat.reduceEqDiff, reduceCtorEq, Nat.reduceAdd, Nat.reduceLeDiff, Nat.reduceMul, q3]
    · rw [show nothU r = false by unfold nothU; rw [q1, q3]; rfl]
    · rw [show nothU r = decide (r.2.2 = 0) by unfold nothU; rw [q1, q3]; rfl]
  · cases q2 : decide ((r.2.1.length : Int) = 0) <;> simp only [go_sem, ↓reduceIte, Nat.reduceEqDiff, reduceCtorEq, Nat.reduceAdd, Nat.reduceLeDiff, Nat.reduceMul, q2]
    · cases q3 : decide (r.1 = 5) <;> simp only [go_sem, ↓reduceIte, Nat.reduceEqDiff, reduceCtorEq, Nat.reduceAdd, Nat.reduceLeDiff, Nat.reduceMul, q3]
      · rw [show nothU r = false by unfold nothU; rw [q1, q2, q3]; rfl]
      · rw [show nothU r = decide (r.2.2 = 0) by unfold nothU; rw [q1, q2, q3]; rfl]
    · rw [show nothU r = true by unfold nothU; rw [q1, q2]; rfl]
theorem f63 {H : Hp} {w z : Value} {q r : Ru} {id : Nat} (hid : H[id]? = some [.int .i64 r.1, z, .int .i64 r.2.2]) : Scal EE 63 [vRu q w, .pointer (some ⟨id, 0, some 3⟩)] H (.bool (decide (q.1 = r.1))) := by
  refine scal_ok rfl rfl k63 (by simp [c63]) rfl fun m hw => ?_
  unfold vRu
  simp only [go_sem, ↓reduceIte, Nat.reduceEqDiff, reduceCtorEq, Nat.reduceAdd, Nat.reduceLeDiff, Nat.reduceMul, c63, hid]
theorem f32 {m : Md} {H : Hp} {v u : Value} {a b : List Ru} (ha : SlR H v a) (hb : SlR H u b) (hw : Wr m H) (hnr : m.nr = false) : Fun EE m 32 [v, u] H fun r H' => r = .bool (srR a b) ∧ H <+: H' := by
  refine fun_f rfl rfl k32 (by simp [c32]) ?_
  have a56 := fun {m draw s d ts Q} => callT_at (m := m) (draw := draw) (s := s) (d := d) (ts := ts) (Q := Q) (f56 ha)
  have b56 := fun {m draw s d ts Q} => callT_at (m := m) (draw := draw) (s := s) (d := d) (ts := ts) (Q := Q) (f56 hb)
  simp only [go_sem, ↓reduceIte, Nat.reduceEqDiff, reduceCtorEq, Nat.reduceAdd, Nat.reduceLeDiff, Nat.reduceMul, c32, a56, hw]
  cases qa : rulesOk a <;> simp only [go_sem, ↓reduceIte, Nat.reduceEqDiff, reduceCtorEq, Nat.reduceAdd, Nat.reduceLeDiff, Nat.reduceMul, qa, b56, hw]
  · exact ⟨by unfold srR; rw [qa]; rfl, List.prefix_refl _⟩
  cases qb : rulesOk b <;> simp only [go_sem, ↓reduceIte, Nat.reduceEqDiff, reduceCtorEq, Nat.reduceAdd, Nat.reduceLeDiff, Nat.reduceMul, qb]
  · exact ⟨by unfold srR; rw [qa, qb]; rfl, List.prefix_refl _⟩
  have haa := (rules_t.1 qa).2
  have hbb := (rules_t.1 qb).2
  refine callT_now (f57 ha haa hw hnr) fun xv H1 ⟨p1, X, sX, eX⟩ => ?_
  have p1 : H <+: H1 := p1
  have w1 := hw.pre p1
  have rX := sX.r
  rw [eX] at rX
  have a60 := fun {m draw s d ts Q} => callT_at (m := m) (draw := draw) (s := s) (d := d) (ts := ts) (Q := Q) (f60 (k := 61) (caps := #[]) (p := nothU) rX (fun r w hs => f61 hs))
  rw [noth_any haa] at a60
  simp only [go_sem, ↓reduceIte, Nat.reduceEqDiff, reduceCtorEq, Nat.reduceAdd, Nat.reduceLeDiff, Nat.reduceMul, a60, w1]
  cases qn : nothR a <;> simp only [go_sem, ↓reduceIte, Nat.reduceEqDiff, reduceCtorEq, Nat.reduceAdd, Nat.reduceLeDiff, Nat.reduceMul, qn]
  rotate_left
  · exact ⟨by unfold srR; rw [qa, qb, qn]; rfl, p1⟩
  refine callT_now (f57 (hb.pre p1) hbb w1 hnr) fun yv H2 ⟨p2, Y, sY, eY⟩ => ?_
  have p2 : H1 <+: H2 := p2
  have w2 := w1.pre p2
  have rY := sY.r
  rw [eY] at rY
  have rX := rX.pre p2
  have hyl := normT_len b 5
  have hxl := normT_len a 5
  have pH := p1.trans p2
  simp only [go_sem, ↓reduceIte, Nat.reduceEqDiff, reduceCtorEq, Nat.reduceAdd, Nat.reduceLeDiff, Nat.reduceMul, rY.len]
  refine go_for (normT b 5).length (fun i s => H2 <+: s.H ∧ s.ρ 5 = .val xv ∧ s.ρ 23 = .val yv ∧ s.ρ 24 = .val (.int .i64 (normT b 5).length) ∧ s.ρ 25 = .val (.int .i64 i) ∧ ∀ r ∈ (normT b 5).take i, (!srY (kindR a r.1) r.1 r) = false)
    (fun s => H2 <+: s.H ∧ ∀ r ∈ normT b 5, (!srY (kindR a r.1) r.1 r) = false) ?_ ?_ ?_
  · exact ⟨List.prefix_refl _, by simp [upd, ini], by simp [upd], by simp [upd], by simp [upd], by simp⟩
  · rintro i s hi ⟨kH, k5, k23, k24, k25, hn⟩
    have kX := rX.pre kH
    have kY := rY.pre kH
    have wk := w2.pre kH
    simp only [go_sem, ↓reduceIte, Nat.reduceEqDiff, reduceCtorEq, Nat.reduceAdd, Nat.reduceLeDiff, Nat.reduceMul, k5, k23, k24, k25]
    cases c1 : decide ((i : Int) < ((normT b 5).length : Int)) <;> simp only [go_sem, ↓reduceIte, Nat.reduceEqDiff, reduceCtorEq, Nat.reduceAdd, Nat.reduceLeDiff, Nat.reduceMul, k5, k23, k24, k25, c1]
    · have : i = (normT b 5).length := by have := of_decide_eq_false c1; omega
      subst this
      rw [List.take_length] at hn
      exact ⟨kH, hn⟩
    have hil : i < (normT b 5).length := by have := of_decide_eq_true c1; omega
    have wi := wrap64 ((i : Int) + 1) (by omega) (by omega)
    have hmem := (norm_at hbb).1 (List.getElem_mem hil)
    obtain ⟨hrok, _⟩ := kind_all hbb hmem
    obtain ⟨id, q, o, ho, ⟨w, hr, hs⟩, hp, hia⟩ := kY.elem (List.getElem?_eq_getElem hil)
    have hsucc := fun h => none_succ (p := fun r => !srY (kindR a r.1) r.1 r) hil hn h
    have hbad : srY (kindR a (normT b 5)[i].1) (normT b 5)[i].1 (normT b 5)[i] = false → srR a b = false := fun h => by
      unfold srR
      rw [qa, qb, qn, ← sr_all hbb, List.all_eq_false.2 ⟨_, List.getElem_mem hil, by rw [h]; simp⟩]
      rfl
    have him := im_sr haa hrok
    generalize hrr : (normT b 5)[i] = r at *
    have kw := wk
    have wid : m.wr s.H.length = true := kw _ (Nat.le_refl _)
    have pn : s.H <+: s.H ++ [[.int .i64 r.1, w, .int .i64 r.2.2]] := List.prefix_append _ _
    have hset : (s.H ++ [[Value.int .i64 0, .slice none 0 0, .int .i64 0]]).set s.H.length [.int .i64 r.1, w, .int .i64 r.2.2] = s.H ++ [[.int .i64 r.1, w, .int .i64 r.2.2]] := by
      rw [List.set_append_right _ _ (Nat.le_refl _), Nat.sub_self]; rfl
    have hget : (s.H ++ [[Value.int .i64 0, .slice none 0 0, .int .i64 0]])[s.H.length]? = some [Value.int .i64 0, .slice none 0 0, .int .i64 0] := by simp
    have hget2 : (s.H ++ [[.int .i64 r.1, w, .int .i64 r.2.2]])[s.H.length]? = some [.int .i64 r.1, w, .int .i64 r.2.2] := by simp
    have kX2 := kX.pre pn
    have hs2 := hs.pre pn
    have kw2 : Wr m (s.H ++ [[.int .i64 r.1, w, .int .i64 r.2.2]]) := kw.pre pn
    have pT : H2 <+: s.H ++ [[.int .i64 r.1, w, .int .i64 r.2.2]] := kH.trans pn
    simp only [go_sem, ↓reduceIte, Nat.reduceEqDiff, reduceCtorEq, Nat.reduceAdd, Nat.reduceLeDiff, Nat.reduceMul, k5, k23, k24, k25, hia, ho, hr, hp, hget, wid, hset, hnr, Bool.false_eq_true, false_implies]
    refine callT_to (fun m' h => f62 (k := 63) (caps := #[.pointer (some ⟨s.H.length, 0, some 3⟩)]) (p := fun q => decide (q.1 = r.1)) kX2 (fun q w hs => f63 hget2) m' h) rfl kw2 fun rv H3 ⟨⟨n, er, hidx⟩, e3⟩ => ?_
    subst er; subst e3
    have hi64 : ∀ {o : Option Ru}, kindR a r.1 = o → imQ o r = srY (kindR a r.1) r.1 r := fun {o} e => by rw [← e]; exact him
    rcases hidx with ⟨en, hnone⟩ | ⟨j, hj, en, hpj, _⟩
    · subst en
      have hk : kindR a r.1 = none := by
        cases q : kindR a r.1 with
        | none => rfl
        | some x =>
          have ex := (kind_all haa q).2
          have := hnone x ((norm_at haa).2 (by rw [ex]; exact q))
          simp [ex] at this
      have hI := hi64 hk
      have c64 := fun {m draw s d ts Q} => callT_at (m := m) (draw := draw) (s := s) (d := d) (ts := ts) (Q := Q) (f64 hs2 (u := .slice none 0 0) (k := []) (.inl ⟨rfl, rfl⟩))
      have e1 : decide ((-1 : Int) ≥ 0) = false := rfl
      have e2 : decide ((-1 : Int) < 0) = true := rfl
      simp only [go_sem, ↓reduceIte, Nat.reduceEqDiff, reduceCtorEq, Nat.reduceAdd, Nat.reduceLeDiff, Nat.reduceMul, k5, k23, k24, k25, e1, e2, exps, buildK, fillL, zeros_3, hget2]
      cases q3 : decide (r.1 = 3) <;> simp only [go_sem, ↓reduceIte, Nat.reduceEqDiff, reduceCtorEq, Nat.reduceAdd, Nat.reduceLeDiff, Nat.reduceMul, k5, k23, k24, k25, q3, hget2, c64, kw2, e2]
      · have hI : srY (kindR a r.1) r.1 r = false := by rw [← hI]; unfold imQ; rw [if_neg (of_decide_eq_false q3)]
        exact ⟨(hbad hI).symm, pH.trans pT⟩
      · have hI : srY (kindR a r.1) r.1 r = subI r.2.1 [] := by rw [← hI]; unfold imQ; rw [if_pos (of_decide_eq_true q3)]; rfl
        cases qs : subI r.2.1 [] <;> simp only [go_sem, ↓reduceIte, Nat.reduceEqDiff, reduceCtorEq, Nat.reduceAdd, Nat.reduceLeDiff, Nat.reduceMul, k5, k23, k24, k25, qs, wi]
        · exact ⟨(hbad (hI.trans qs)).symm, pH.trans pT⟩
        · exact ⟨hil, pT, by simp, hsucc (by rw [hI, qs]; rfl)⟩
    · subst en
      have hjx := (norm_at haa).1 (List.getElem_mem hj)
      have ex := of_decide_eq_true hpj
      obtain ⟨id2, q2, o2, ho2, ⟨w2', hr2, hsx⟩, hp2, hia2⟩ := kX2.elem (List.getElem?_eq_getElem hj)
      generalize (normT a 5)[j] = x at *
      have hk : kindR a r.1 = some x := by rw [← ex]; exact hjx
      have hI := hi64 hk
      have c64 := fun {m draw s d ts Q} => callT_at (m := m) (draw := draw) (s := s) (d := d) (ts := ts) (Q := Q) (f64 hs2 hsx)
      have d64 := fun {m draw s d ts Q} => callT_at (m := m) (draw := draw) (s := s) (d := d) (ts := ts) (Q := Q) (f64 hsx hs2)
      have e1 : decide ((j : Int) ≥ 0) = true := decide_eq_true (by omega)
      have e2 : decide ((j : Int) < 0) = false := decide_eq_false (by omega)
      simp only [go_sem, ↓reduceIte, Nat.reduceEqDiff, reduceCtorEq, Nat.reduceAdd, Nat.reduceLeDiff, Nat.reduceMul, k5, k23, k24, k25, e1, e2, exps, buildK, fillL, zeros_3, hget2, hia2, ho2, hr2, hp2]
      cases q3 : decide (r.1 = 3) <;> simp only [go_sem, ↓reduceIte, Nat.reduceEqDiff, reduceCtorEq, Nat.reduceAdd, Nat.reduceLeDiff, Nat.reduceMul, k5, k23, k24, k25, q3, hget2, c64, kw2, e2]
      · have hI : srY (kindR a r.1) r.1 r = (!decide (x.2.2 > r.2.2) && subI x.2.1 r.2.1) := by rw [← hI]; unfold imQ; rw [if_neg (of_decide_eq_false q3)]
        cases q4 : decide (x.2.2 > r.2.2) <;> simp only [go_sem, ↓reduceIte, Nat.reduceEqDiff, reduceCtorEq, Nat.reduceAdd, Nat.reduceLeDiff, Nat.reduceMul, k5, k23, k24, k25, q4, hget2, d64, kw2]
        · cases qs : subI x.2.1 r.2.1 <;> simp only [go_sem, ↓reduceIte, Nat.reduceEqDiff, reduceCtorEq, Nat.reduceAdd, Nat.reduceLeDiff, Nat.reduceMul, k5, k23, k24, k25, qs, wi]
          · exact ⟨(hbad (by rw [hI, q4, qs]; rfl)).symm, pH.trans pT⟩
          · exact ⟨hil, pT, by simp, hsucc (by rw [hI, q4, qs]; rfl)⟩
        · exact ⟨(hbad (by rw [hI, q4]; rfl)).symm, pH.trans pT⟩
      · have hI : srY (kindR a r.1) r.1 r = subI r.2.1 x.2.1 := by rw [← hI]; unfold imQ; rw [if_pos (of_decide_eq_true q3)]; rfl
        cases qs : subI r.2.1 x.2.1 <;> simp only [go_sem, ↓reduceIte, Nat.reduceEqDiff, reduceCtorEq, Nat.reduceAdd, Nat.reduceLeDiff, Nat.reduceMul, k5, k23, k24, k25, qs, wi]
        · exact ⟨(hbad (hI.trans qs)).symm, pH.trans pT⟩
        · exact ⟨hil, pT, by simp, hsucc (by rw [hI, qs]; rfl)⟩
  · rintro s ⟨kH, hn⟩
    simp only [go_sem, ↓reduceIte, Nat.reduceEqDiff, reduceCtorEq, Nat.reduceAdd, Nat.reduceLeDiff, Nat.reduceMul]
    refine ⟨?_, pH.trans kH⟩
    unfold srR
    rw [qa, qb, qn, ← sr_all hbb, List.all_eq_true.2 fun r hr => by have := hn r hr; simpa using this]
    rfl
end Go.Proofs.Ytceilcdhflcbpaa.Ev

/- Rules' text: a function of them. -/
namespace Go.Proofs.Ytceilcdhflcbpaa.Ev
set_option linter.all false
open Go
set_option maxRecDepth 4000

theorem c48d {m : Md} {draw : Bool} {s : St} {d : Option Nat} {ts : List Tk} {Q : Ex → St → Prop} {a b c : Int} (hw : Wr m s.H) :
    callT EE m draw 48 (some [.int .i64 a, .int .i64 b, .int .i64 c]) s d ts Q = go EE m ts { s with ρ := upd s.ρ d (.val (.bool (decide (a ≥ b) && decide (a ≤ c)))) } Q := c48' hw
theorem varB_in {n : Int} (h : (decide (n ≥ 0) && decide (n ≤ 562949953421311)) = true) : 0 ≤ n ∧ n ≤ 562949953421311 := by simpa using h
theorem varB_out {n : Int} (h : (decide (n ≥ 0) && decide (n ≤ 562949953421311)) = false) : varB n = ⟨#[]⟩ := by
  unfold varB
  rw [if_neg (fun h2 => by simp at h; omega)]
  rfl
theorem f69 {H : Hp} {n : Int} : Scal EE 69 [.int .i64 n] H (.string (varB n)) := by
  refine scal_ok rfl rfl k69 (by simp [c69]) rfl fun m hw => ?_
  simp only [go_nil, go_blk, go_skip, go_ret, go_exit, go_seq, go_block, go_reg, go_r0, go_r, go_d0, go_d, go_e0, go_e, box2, Option.isSome_some, Nat.le_refl, go_cond, go_o, go_g, aft_some, cnd_bool, grd_bool, grd_tup, brT_true, brT_false, brT_not, thr_exit, thr_c, thr_nil, stp, stepK, movK, mv1, ex, exv, exvs, upd_some, upd_none, ini, St.val, binK, binV, ofV, pickK, unK, unV, beqK, beq_true, beq_false, if_true, if_false, List.getElem?_cons_zero, List.getElem?_cons_succ, ↓reduceIte, Nat.reduceEqDiff, reduceCtorEq, loadK, adr, deref, Ad.fv, Ad.live, fadrK, List.length_cons, List.length_nil, List.drop_zero, List.drop_succ_cons, List.take_succ_cons, List.take_zero, Nat.reduceAdd, Nat.reduceLeDiff, Nat.zero_add, Nat.add_zero, aeqK, agEq, scEq, boxVK, newVK, exc, vc_agg, vc_int, vc_bool, vc_str, vc_ptr, vc_sl, vc_fn, boxOf, adInf, List.reverse_cons, List.reverse_nil, List.nil_append, List.cons_append, extK, Bool.and_true, Bool.true_and, Bool.not_true, Bool.not_false, resT, resVs, resV, true_and, and_true, storeK, spl_nil, spl_z, spl_1, spl_2, spl_3, spl_4, spl_5, spl_6, spl_7, spl_8, scal_int, scal_bool, scal_str, scal_nil, implies_true, Bool.and_self, Post_ret, Post_normal, PostS_ret, PostS_normal, retT_true, retT_false, flat_bool, flat_int, flat_str, List.take_length, decide_true, decide_false, Option.some.injEq, Value.bool.injEq, Value.int.injEq, Bool.false_and, Bool.and_false, not_false_eq_true, not_true_eq_false, toIntK, List.length_set, Nat.reduceMul, Bool.not_eq_true, Bool.not_eq_false, List.all_cons, List.all_nil, exps, fillL, buildK, strK, nilcK, fnK, callVT, List.size_toArray, List.append_nil, List.singleton_append, boxOK, newOK, scal_nil, List.isEmpty_nil, List.isEmpty_cons, mkVK, mkOK, mkCells, zeros_0, zeros_1, zeros_2, zeros_3, zeros_4, List.map_cons, List.map_nil, c69, c48d, hw, fillL]
  refine brT.intro (fun h => ?_) (fun h => ?_) <;> simp only [go_nil, go_blk, go_skip, go_ret, go_exit, go_seq, go_block, go_reg, go_r0, go_r, go_d0, go_d, go_e0, go_e, box2, Option.isSome_some, Nat.le_refl, go_cond, go_o, go_g, aft_some, cnd_bool, grd_bool, grd_tup, brT_true, brT_false, brT_not, thr_exit, thr_c, thr_nil, stp, stepK, movK, mv1, ex, exv, exvs, upd_some, upd_none, ini, St.val, binK, binV, ofV, pickK, unK, unV, beqK, beq_true, beq_false, if_true, if_false, List.getElem?_cons_zero, List.getElem?_cons_succ, ↓reduceIte, Nat.reduceEqDiff, reduceCtorEq, loadK, adr, deref, Ad.fv, Ad.live, fadrK, List.length_cons, List.length_nil, List.drop_zero, List.drop_succ_cons, List.take_succ_cons, List.take_zero, Nat.reduceAdd, Nat.reduceLeDiff, Nat.zero_add, Nat.add_zero, aeqK, agEq, scEq, boxVK, newVK, exc, vc_agg, vc_int, vc_bool, vc_str, vc_ptr, vc_sl, vc_fn, boxOf, adInf, List.reverse_cons, List.reverse_nil, List.nil_append, List.cons_append, extK, Bool.and_true, Bool.true_and, Bool.not_true, Bool.not_false, resT, resVs, resV, true_and, and_true, storeK, spl_nil, spl_z, spl_1, spl_2, spl_3, spl_4, spl_5, spl_6, spl_7, spl_8, scal_int, scal_bool, scal_str, scal_nil, implies_true, Bool.and_self, Post_ret, Post_normal, PostS_ret, PostS_normal, retT_true, retT_false, flat_bool, flat_int, flat_str, List.take_length, decide_true, decide_false, Option.some.injEq, Value.bool.injEq, Value.int.injEq, Bool.false_and, Bool.and_false, not_false_eq_true, not_true_eq_false, toIntK, List.length_set, Nat.reduceMul, Bool.not_eq_true, Bool.not_eq_false, List.all_cons, List.all_nil, exps, fillL, buildK, strK, nilcK, fnK, callVT, List.size_toArray, List.append_nil, List.singleton_append, boxOK, newOK, scal_nil, List.isEmpty_nil, List.isEmpty_cons, mkVK, mkOK, mkCells, zeros_0, zeros_1, zeros_2, zeros_3, zeros_4, List.map_cons, List.map_nil, fillL]
  rotate_left
  · rw [varB_out h]
  obtain ⟨h0, h1⟩ := varB_in h
  obtain ⟨k, rfl⟩ : ∃ k : Nat, n = k := ⟨n.toNat, by omega⟩
  have hV : varB (k : Int) = strOf (varL k) := by unfold varB; rw [if_pos ⟨h0, h1⟩]; rfl
  have h7 : (128 : Nat) ^ (6 + 1) = 562949953421312 := by decide
  have hlen := varL_len 6 k (by omega)
  rw [hV]
  refine go_loop (fun j s => H <+: s.H ∧ s.ρ 0 = .val (.int .i64 j) ∧ j ≤ k ∧ ∃ wv l, s.ρ 3 = .val wv ∧ SlN s.H wv l ∧ OwnS H.length wv ∧ l ++ varL j = varL k)
    (fun s => H <+: s.H ∧ ∃ (j : Nat) (wv : Value) (l : List Nat), s.ρ 0 = .val (.int .i64 j) ∧ j < 128 ∧ s.ρ 3 = .val wv ∧ SlN s.H wv l ∧ OwnS H.length wv ∧ l ++ [j] = varL k) k ?_ ?_ ?_
  · exact ⟨List.prefix_append _ _, by simp [upd, ini], Nat.le_refl _, _, [], by simp [upd], own_newN, .inr ⟨_, _, _, _, rfl, Nat.le_refl _⟩, rfl⟩
  · rintro j s ⟨hH, h0', hj, wv, l, h3, hs, ho, hl⟩
    simp only [go_nil, go_blk, go_skip, go_ret, go_exit, go_seq, go_block, go_reg, go_r0, go_r, go_d0, go_d, go_e0, go_e, box2, Option.isSome_some, Nat.le_refl, go_cond, go_o, go_g, aft_some, cnd_bool, grd_bool, grd_tup, brT_true, brT_false, brT_not, thr_exit, thr_c, thr_nil, stp, stepK, movK, mv1, ex, exv, exvs, upd_some, upd_none, ini, St.val, binK, binV, ofV, pickK, unK, unV, beqK, beq_true, beq_false, if_true, if_false, List.getElem?_cons_zero, List.getElem?_cons_succ, ↓reduceIte, Nat.reduceEqDiff, reduceCtorEq, loadK, adr, deref, Ad.fv, Ad.live, fadrK, List.length_cons, List.length_nil, List.drop_zero, List.drop_succ_cons, List.take_succ_cons, List.take_zero, Nat.reduceAdd, Nat.reduceLeDiff, Nat.zero_add, Nat.add_zero, aeqK, agEq, scEq, boxVK, newVK, exc, vc_agg, vc_int, vc_bool, vc_str, vc_ptr, vc_sl, vc_fn, boxOf, adInf, List.reverse_cons, List.reverse_nil, List.nil_append, List.cons_append, extK, Bool.and_true, Bool.true_and, Bool.not_true, Bool.not_false, resT, resVs, resV, true_and, and_true, storeK, spl_nil, spl_z, spl_1, spl_2, spl_3, spl_4, spl_5, spl_6, spl_7, spl_8, scal_int, scal_bool, scal_str, scal_nil, implies_true, Bool.and_self, Post_ret, Post_normal, PostS_ret, PostS_normal, retT_true, retT_false, flat_bool, flat_int, flat_str, List.take_length, decide_true, decide_false, Option.some.injEq, Value.bool.injEq, Value.int.injEq, Bool.false_and, Bool.and_false, not_false_eq_true, not_true_eq_false, toIntK, List.length_set, Nat.reduceMul, Bool.not_eq_true, Bool.not_eq_false, List.all_cons, List.all_nil, exps, fillL, buildK, strK, nilcK, fnK, callVT, List.size_toArray, List.append_nil, List.singleton_append, boxOK, newOK, scal_nil, List.isEmpty_nil, List.isEmpty_cons, mkVK, mkOK, mkCells, zeros_0, zeros_1, zeros_2, zeros_3, zeros_4, List.map_cons, List.map_nil, h0', h3]
    refine brT.intro (fun q1 => ?_) (fun q1 => ?_) <;> simp only [go_nil, go_blk, go_skip, go_ret, go_exit, go_seq, go_block, go_reg, go_r0, go_r, go_d0, go_d, go_e0, go_e, box2, Option.isSome_some, Nat.le_refl, go_cond, go_o, go_g, aft_some, cnd_bool, grd_bool, grd_tup, brT_true, brT_false, brT_not, thr_exit, thr_c, thr_nil, stp, stepK, movK, mv1, ex, exv, exvs, upd_some, upd_none, ini, St.val, binK, binV, ofV, pickK, unK, unV, beqK, beq_true, beq_false, if_true, if_false, List.getElem?_cons_zero, List.getElem?_cons_succ, ↓reduceIte, Nat.reduceEqDiff, reduceCtorEq, loadK, adr, deref, Ad.fv, Ad.live, fadrK, List.length_cons, List.length_nil, List.drop_zero, List.drop_succ_cons, List.take_succ_cons, List.take_zero, Nat.reduceAdd, Nat.reduceLeDiff, Nat.zero_add, Nat.add_zero, aeqK, agEq, scEq, boxVK, newVK, exc, vc_agg, vc_int, vc_bool, vc_str, vc_ptr, vc_sl, vc_fn, boxOf, adInf, List.reverse_cons, List.reverse_nil, List.nil_append, List.cons_append, extK, Bool.and_true, Bool.true_and, Bool.not_true, Bool.not_false, resT, resVs, resV, true_and, and_true, storeK, spl_nil, spl_z, spl_1, spl_2, spl_3, spl_4, spl_5, spl_6, spl_7, spl_8, scal_int, scal_bool, scal_str, scal_nil, implies_true, Bool.and_self, Post_ret, Post_normal, PostS_ret, PostS_normal, retT_true, retT_false, flat_bool, flat_int, flat_str, List.take_length, decide_true, decide_false, Option.some.injEq, Value.bool.injEq, Value.int.injEq, Bool.false_and, Bool.and_false, not_false_eq_true, not_true_eq_false, toIntK, List.length_set, Nat.reduceMul, Bool.not_eq_true, Bool.not_eq_false, List.all_cons, List.all_nil, exps, fillL, buildK, strK, nilcK, fnK, callVT, List.size_toArray, List.append_nil, List.singleton_append, boxOK, newOK, scal_nil, List.isEmpty_nil, List.isEmpty_cons, mkVK, mkOK, mkCells, zeros_0, zeros_1, zeros_2, zeros_3, zeros_4, List.map_cons, List.map_nil, h0', h3]
    · have q2 : ¬ j < 128 := by have := of_decide_eq_true q1; omega
      have hll := congrArg List.length hl
      have hp := varL_pos j
      rw [List.length_append] at hll
      obtain ⟨v2, H2, e1, e2, e3, e4, e5, e6, e7⟩ := hs.oneN (m := m) (j % 128 + 128) ho hH.length_le hw (by omega)
      have t1 := and7 (k := j) (by omega)
      have t2 : Int.fdiv (j : Int) (2 ^ (min (Int.toNat 7) IntKind.i64.bits)) = ((j / 128 : Nat) : Int) := by rw [show (2 : Int) ^ (min (Int.toNat 7) IntKind.i64.bits) = 128 by decide, Int.fdiv_eq_ediv_of_nonneg _ (by decide)]; omega
      have t3 := or128 (k := j % 128) (by omega)
      have t4 : IntKind.u8.wrap (((j % 128 + 128 : Nat) : Int)) = ((j % 128 + 128 : Nat) : Int) := wrap8 _ (by omega) (by omega)
      simp only [go_nil, go_blk, go_skip, go_ret, go_exit, go_seq, go_block, go_reg, go_r0, go_r, go_d0, go_d, go_e0, go_e, box2, Option.isSome_some, Nat.le_refl, go_cond, go_o, go_g, aft_some, cnd_bool, grd_bool, grd_tup, brT_true, brT_false, brT_not, thr_exit, thr_c, thr_nil, stp, stepK, movK, mv1, ex, exv, exvs, upd_some, upd_none, ini, St.val, binK, binV, ofV, pickK, unK, unV, beqK, beq_true, beq_false, if_true, if_false, List.getElem?_cons_zero, List.getElem?_cons_succ, ↓reduceIte, Nat.reduceEqDiff, reduceCtorEq, loadK, adr, deref, Ad.fv, Ad.live, fadrK, List.length_cons, List.length_nil, List.drop_zero, List.drop_succ_cons, List.take_succ_cons, List.take_zero, Nat.reduceAdd, Nat.reduceLeDiff, Nat.zero_add, Nat.add_zero, aeqK, agEq, scEq, boxVK, newVK, exc, vc_agg, vc_int, vc_bool, vc_str, vc_ptr, vc_sl, vc_fn, boxOf, adInf, List.reverse_cons, List.reverse_nil, List.nil_append, List.cons_append, extK, Bool.and_true, Bool.true_and, Bool.not_true, Bool.not_false, resT, resVs, resV, true_and, and_true, storeK, spl_nil, spl_z, spl_1, spl_2, spl_3, spl_4, spl_5, spl_6, spl_7, spl_8, scal_int, scal_bool, scal_str, scal_nil, implies_true, Bool.and_self, Post_ret, Post_normal, PostS_ret, PostS_normal, retT_true, retT_false, flat_bool, flat_int, flat_str, List.take_length, decide_true, decide_false, Option.some.injEq, Value.bool.injEq, Value.int.injEq, Bool.false_and, Bool.and_false, not_false_eq_true, not_true_eq_false, toIntK, List.length_set, Nat.reduceMul, Bool.not_eq_true, Bool.not_eq_false, List.all_cons, List.all_nil, exps, fillL, buildK, strK, nilcK, fnK, callVT, List.size_toArray, List.append_nil, List.singleton_append, boxOK, newOK, scal_nil, List.isEmpty_nil, List.isEmpty_cons, mkVK, mkOK, mkCells, zeros_0, zeros_1, zeros_2, zeros_3, zeros_4, List.map_cons, List.map_nil, h0', h3, t1, t3, t4]
      rw [e1]
      rotate_left
      · rfl
      · rfl
      · rfl
      simp only [go_nil, go_blk, go_skip, go_ret, go_exit, go_seq, go_block, go_reg, go_r0, go_r, go_d0, go_d, go_e0, go_e, box2, Option.isSome_some, Nat.le_refl, go_cond, go_o, go_g, aft_some, cnd_bool, grd_bool, grd_tup, brT_true, brT_false, brT_not, thr_exit, thr_c, thr_nil, stp, stepK, movK, mv1, ex, exv, exvs, upd_some, upd_none, ini, St.val, binK, binV, ofV, pickK, unK, unV, beqK, beq_true, beq_false, if_true, if_false, List.getElem?_cons_zero, List.getElem?_cons_succ, ↓reduceIte, Nat.reduceEqDiff, reduceCtorEq, loadK, adr, deref, Ad.fv, Ad.live, fadrK, List.length_cons, List.length_nil, List.drop_zero, List.drop_succ_cons, List.take_succ_cons, List.take_zero, Nat.reduceAdd, Nat.reduceLeDiff, Nat.zero_add, Nat.add_zero, aeqK, agEq, scEq, boxVK, newVK, exc, vc_agg, vc_int, vc_bool, vc_str, vc_ptr, vc_sl, vc_fn, boxOf, adInf, List.reverse_cons, List.reverse_nil, List.nil_append, List.cons_append, extK, Bool.and_true, Bool.true_and, Bool.not_true, Bool.not_false, resT, resVs, resV, true_and, and_true, storeK, spl_nil, spl_z, spl_1, spl_2, spl_3, spl_4, spl_5, spl_6, spl_7, spl_8, scal_int, scal_bool, scal_str, scal_nil, implies_true, Bool.and_self, Post_ret, Post_normal, PostS_ret, PostS_normal, retT_true, retT_false, flat_bool, flat_int, flat_str, List.take_length, decide_true, decide_false, Option.some.injEq, Value.bool.injEq, Value.int.injEq, Bool.false_and, Bool.and_false, not_false_eq_true, not_true_eq_false, toIntK, List.length_set, Nat.reduceMul, Bool.not_eq_true, Bool.not_eq_false, List.all_cons, List.all_nil, exps, fillL, buildK, strK, nilcK, fnK, callVT, List.size_toArray, List.append_nil, List.singleton_append, boxOK, newOK, scal_nil, List.isEmpty_nil, List.isEmpty_cons, mkVK, mkOK, mkCells, zeros_0, zeros_1, zeros_2, zeros_3, zeros_4, List.map_cons, List.map_nil, h0', h3, t2, Int.reduceLT]
      refine ⟨j / 128, by omega, e7 H (Nat.le_refl _) hH, rfl, by omega, v2, _, rfl, e2, e3, ?_⟩
      rw [List.append_assoc, List.singleton_append, ← varL_ge q2]
      exact hl
    · have q2 : j < 128 := by have := of_decide_eq_false q1; omega
      rw [varL_lt q2] at hl
      exact ⟨hH, j, wv, l, rfl, q2, rfl, hs, ho, hl⟩
  · rintro s ⟨hH, j, wv, l, h0', hj, h3, hs, ho, hl⟩
    have hll := congrArg List.length hl
    rw [List.length_append] at hll
    obtain ⟨v2, H2, e1, e2, e3, e4, e5, e6, e7⟩ := hs.oneN (m := m) j ho hH.length_le hw (by simp at hll; omega)
    have hb := e2.b2s (fun x hx => by
      rw [hl] at hx
      obtain ⟨i, hi⟩ := List.getElem?_of_mem hx
      exact (varL_bits k i x hi).1)
    simp only [go_nil, go_blk, go_skip, go_ret, go_exit, go_seq, go_block, go_reg, go_r0, go_r, go_d0, go_d, go_e0, go_e, box2, Option.isSome_some, Nat.le_refl, go_cond, go_o, go_g, aft_some, cnd_bool, grd_bool, grd_tup, brT_true, brT_false, brT_not, thr_exit, thr_c, thr_nil, stp, stepK, movK, mv1, ex, exv, exvs, upd_some, upd_none, ini, St.val, binK, binV, ofV, pickK, unK, unV, beqK, beq_true, beq_false, if_true, if_false, List.getElem?_cons_zero, List.getElem?_cons_succ, ↓reduceIte, Nat.reduceEqDiff, reduceCtorEq, loadK, adr, deref, Ad.fv, Ad.live, fadrK, List.length_cons, List.length_nil, List.drop_zero, List.drop_succ_cons, List.take_succ_cons, List.take_zero, Nat.reduceAdd, Nat.reduceLeDiff, Nat.zero_add, Nat.add_zero, aeqK, agEq, scEq, boxVK, newVK, exc, vc_agg, vc_int, vc_bool, vc_str, vc_ptr, vc_sl, vc_fn, boxOf, adInf, List.reverse_cons, List.reverse_nil, List.nil_append, List.cons_append, extK, Bool.and_true, Bool.true_and, Bool.not_true, Bool.not_false, resT, resVs, resV, true_and, and_true, storeK, spl_nil, spl_z, spl_1, spl_2, spl_3, spl_4, spl_5, spl_6, spl_7, spl_8, scal_int, scal_bool, scal_str, scal_nil, implies_true, Bool.and_self, Post_ret, Post_normal, PostS_ret, PostS_normal, retT_true, retT_false, flat_bool, flat_int, flat_str, List.take_length, decide_true, decide_false, Option.some.injEq, Value.bool.injEq, Value.int.injEq, Bool.false_and, Bool.and_false, not_false_eq_true, not_true_eq_false, toIntK, List.length_set, Nat.reduceMul, Bool.not_eq_true, Bool.not_eq_false, List.all_cons, List.all_nil, exps, fillL, buildK, strK, nilcK, fnK, callVT, List.size_toArray, List.append_nil, List.singleton_append, boxOK, newOK, scal_nil, List.isEmpty_nil, List.isEmpty_cons, mkVK, mkOK, mkCells, zeros_0, zeros_1, zeros_2, zeros_3, zeros_4, List.map_cons, List.map_nil, h0', h3, wrap8 (j : Int) (by omega) (by omega)]
    rw [e1]
    rotate_left
    · rfl
    · rfl
    · rfl
    simp only [go_nil, go_blk, go_skip, go_ret, go_exit, go_seq, go_block, go_reg, go_r0, go_r, go_d0, go_d, go_e0, go_e, box2, Option.isSome_some, Nat.le_refl, go_cond, go_o, go_g, aft_some, cnd_bool, grd_bool, grd_tup, brT_true, brT_false, brT_not, thr_exit, thr_c, thr_nil, stp, stepK, movK, mv1, ex, exv, exvs, upd_some, upd_none, ini, St.val, binK, binV, ofV, pickK, unK, unV, beqK, beq_true, beq_false, if_true, if_false, List.getElem?_cons_zero, List.getElem?_cons_succ, ↓reduceIte, Nat.reduceEqDiff, reduceCtorEq, loadK, adr, deref, Ad.fv, Ad.live, fadrK, List.length_cons, List.length_nil, List.drop_zero, List.drop_succ_cons, List.take_succ_cons, List.take_zero, Nat.reduceAdd, Nat.reduceLeDiff, Nat.zero_add, Nat.add_zero, aeqK, agEq, scEq, boxVK, newVK, exc, vc_agg, vc_int, vc_bool, vc_str, vc_ptr, vc_sl, vc_fn, boxOf, adInf, List.reverse_cons, List.reverse_nil, List.nil_append, List.cons_append, extK, Bool.and_true, Bool.true_and, Bool.not_true, Bool.not_false, resT, resVs, resV, true_and, and_true, storeK, spl_nil, spl_z, spl_1, spl_2, spl_3, spl_4, spl_5, spl_6, spl_7, spl_8, scal_int, scal_bool, scal_str, scal_nil, implies_true, Bool.and_self, Post_ret, Post_normal, PostS_ret, PostS_normal, retT_true, retT_false, flat_bool, flat_int, flat_str, List.take_length, decide_true, decide_false, Option.some.injEq, Value.bool.injEq, Value.int.injEq, Bool.false_and, Bool.and_false, not_false_eq_true, not_true_eq_false, toIntK, List.length_set, Nat.reduceMul, Bool.not_eq_true, Bool.not_eq_false, List.all_cons, List.all_nil, exps, fillL, buildK, strK, nilcK, fnK, callVT, List.size_toArray, List.append_nil, List.singleton_append, boxOK, newOK, scal_nil, List.isEmpty_nil, List.isEmpty_cons, mkVK, mkOK, mkCells, zeros_0, zeros_1, zeros_2, zeros_3, zeros_4, List.map_cons, List.map_nil]
    rw [hb]
    rotate_left
    · rfl
    · rfl
    simp only [go_nil, go_blk, go_skip, go_ret, go_exit, go_seq, go_block, go_reg, go_r0, go_r, go_d0, go_d, go_e0, go_e, box2, Option.isSome_some, Nat.le_refl, go_cond, go_o, go_g, aft_some, cnd_bool, grd_bool, grd_tup, brT_true, brT_false, brT_not, thr_exit, thr_c, thr_nil, stp, stepK, movK, mv1, ex, exv, exvs, upd_some, upd_none, ini, St.val, binK, binV, ofV, pickK, unK, unV, beqK, beq_true, beq_false, if_true, if_false, List.getElem?_cons_zero, List.getElem?_cons_succ, ↓reduceIte, Nat.reduceEqDiff, reduceCtorEq, loadK, adr, deref, Ad.fv, Ad.live, fadrK, List.length_cons, List.length_nil, List.drop_zero, List.drop_succ_cons, List.take_succ_cons, List.take_zero, Nat.reduceAdd, Nat.reduceLeDiff, Nat.zero_add, Nat.add_zero, aeqK, agEq, scEq, boxVK, newVK, exc, vc_agg, vc_int, vc_bool, vc_str, vc_ptr, vc_sl, vc_fn, boxOf, adInf, List.reverse_cons, List.reverse_nil, List.nil_append, List.cons_append, extK, Bool.and_true, Bool.true_and, Bool.not_true, Bool.not_false, resT, resVs, resV, true_and, and_true, storeK, spl_nil, spl_z, spl_1, spl_2, spl_3, spl_4, spl_5, spl_6, spl_7, spl_8, scal_int, scal_bool, scal_str, scal_nil, implies_true, Bool.and_self, Post_ret, Post_normal, PostS_ret, PostS_normal, retT_true, retT_false, flat_bool, flat_int, flat_str, List.take_length, decide_true, decide_false, Option.some.injEq, Value.bool.injEq, Value.int.injEq, Bool.false_and, Bool.and_false, not_false_eq_true, not_true_eq_false, toIntK, List.length_set, Nat.reduceMul, Bool.not_eq_true, Bool.not_eq_false, List.all_cons, List.all_nil, exps, fillL, buildK, strK, nilcK, fnK, callVT, List.size_toArray, List.append_nil, List.singleton_append, boxOK, newOK, scal_nil, List.isEmpty_nil, List.isEmpty_cons, mkVK, mkOK, mkCells, zeros_0, zeros_1, zeros_2, zeros_3, zeros_4, List.map_cons, List.map_nil, hl]
    exact pre_take (e7 H (Nat.le_refl _) hH)

theorem c69' {m : Md} {draw : Bool} {s : St} {d : Option Nat} {ts : List Tk} {Q : Ex → St → Prop} {n : Int} (hw : Wr m s.H) :
    callT EE m draw 69 (some [.int .i64 n]) s d ts Q = go EE m ts { s with ρ := upd s.ρ d (.val (.string (varB n))) } Q := callT_at f69 rfl hw
def addS (s : ByteArray) (set : List Int) : Nat → ByteArray
  | 0 => s
  | j + 1 => addS s set j ++ varB (set.getD j 0)
def ruS (s : ByteArray) (a : Ru) : ByteArray := addS (s ++ varB a.1 ++ varB a.2.2 ++ varB (a.2.1.length : Int)) a.2.1 a.2.1.length
def showT (l : List Ru) : Nat → ByteArray
  | 0 => varB (l.length : Int)
  | i + 1 => ruS (showT l i) (l.getD i (0, [], 0))
noncomputable def showR (l : List Ru) : ByteArray := if rulesOk l = true then showT l l.length else ⟨#[]⟩
theorem addS_size (s : ByteArray) (set : List Int) : ∀ j, (addS s set j).size ≤ s.size + 7 * j
  | 0 => by simp [addS]
  | j + 1 => by
    have ih := addS_size s set j
    have := varB_size (set.getD j 0)
    rw [addS, ByteArray.size_append]
    omega
theorem ruS_size (s : ByteArray) {a : Ru} (h : a.2.1.length ≤ 31) : (ruS s a).size ≤ s.size + 238 := by
  unfold ruS
  have h1 := addS_size (s ++ varB a.1 ++ varB a.2.2 ++ varB (a.2.1.length : Int)) a.2.1 a.2.1.length
  have h2 := varB_size a.1
  have h3 := varB_size a.2.2
  have h4 := varB_size (a.2.1.length : Int)
  rw [ByteArray.size_append, ByteArray.size_append, ByteArray.size_append] at h1
  omega
theorem showT_size {l : List Ru} (hall : ∀ a ∈ l, rOk a = true) : ∀ i, i ≤ l.length → (showT l i).size ≤ 7 + 238 * i
  | 0, _ => varB_size _
  | i + 1, hi => by
    have ih := showT_size hall i (by omega)
    have hil : i < l.length := by omega
    have := ruS_size (showT l i) (rOk_set (hall _ (List.getElem_mem hil))).1
    rw [showT]
    have e : l.getD i (0, [], 0) = l[i] := by simp [hil]
    rw [e]
    omega
theorem f35 {H : Hp} {v : Value} {l : List Ru} (hl : SlR H v l) : Scal EE 35 [v] H (.string (showR l)) := by
  refine scal_ok rfl rfl k35 (by simp [c35]) rfl fun m hw => ?_
  have hroom := hl.room
  have a56 := fun {m draw s d ts Q} => callT_at (m := m) (draw := draw) (s := s) (d := d) (ts := ts) (Q := Q) (f56 hl)
  simp only [go_sem, ↓reduceIte, Nat.reduceEqDiff, reduceCtorEq, Nat.reduceAdd, Nat.reduceLeDiff, Nat.reduceMul, c35, a56, hw]
  cases q : rulesOk l <;> simp only [go_sem, ↓reduceIte, Nat.reduceEqDiff, reduceCtorEq, Nat.reduceAdd, Nat.reduceLeDiff, Nat.reduceMul, q]
  · rw [show showR l = ⟨#[]⟩ by unfold showR; rw [if_neg (by rw [q]; simp)]]
  simp only [go_sem, ↓reduceIte, Nat.reduceEqDiff, reduceCtorEq, Nat.reduceAdd, Nat.reduceLeDiff, Nat.reduceMul, hl.len, c69', hw]
  refine go_for l.length (fun i s => s.H = H ∧ s.ρ 3 = .val (.string (showT l i)) ∧ s.ρ 14 = .val v ∧ s.ρ 15 = .val (.int .i64 l.length) ∧ s.ρ 16 = .val (.int .i64 i))
    (fun s => s.H = H ∧ s.ρ 3 = .val (.string (showT l l.length))) ?_ ?_ ?_
  · exact ⟨rfl, by simp [upd, showT], by simp [upd], by simp [upd], by simp [upd]⟩
  · rintro i s hi ⟨hH, k3, k14, k15, k16⟩
    simp only [go_sem, ↓reduceIte, Nat.reduceEqDiff, reduceCtorEq, Nat.reduceAdd, Nat.reduceLeDiff, Nat.reduceMul, k3, k14, k15, k16]
    cases c1 : decide ((i : Int) < (l.length : Int)) <;> simp only [go_sem, ↓reduceIte, Nat.reduceEqDiff, reduceCtorEq, Nat.reduceAdd, Nat.reduceLeDiff, Nat.reduceMul, k3, k14, k15, k16, c1]
    · have : i = l.length := by have := of_decide_eq_false c1; omega
      subst this
      exact ⟨hH, rfl⟩
    have hil : i < l.length := by have := of_decide_eq_true c1; omega
    have wi := wrap64 ((i : Int) + 1) (by omega) (by omega)
    obtain ⟨id, p, o, ho, ⟨w, hr, hs⟩, hp, hia⟩ := hl.elem (List.getElem?_eq_getElem hil)
    have hnext : showT l (i + 1) = ruS (showT l i) l[i] := by rw [showT]; simp [hil]
    have hsr := hs.room
    have hset := (rOk_set ((rules_t.1 q).2 _ (List.getElem_mem hil))).1
    have hl20 := (rules_t.1 q).1
    have hz := showT_size (rules_t.1 q).2 i hi
    generalize l[i] = a at *
    have b1 := varB_size a.1
    have b2 := varB_size a.2.2
    have b3 := varB_size (a.2.1.length : Int)
    have z1 : (showT l i).size + (varB a.1).size ≤ 9223372036854775807 := by omega
    have z2 : (showT l i).size + (varB a.1).size + (varB a.2.2).size ≤ 9223372036854775807 := by omega
    have z3 : (showT l i).size + (varB a.1).size + (varB a.2.2).size + (varB (a.2.1.length : Int)).size ≤ 9223372036854775807 := by omega
    have zz : (showT l i ++ varB a.1 ++ varB a.2.2 ++ varB (a.2.1.length : Int)).size ≤ 10000 := by rw [ByteArray.size_append, ByteArray.size_append, ByteArray.size_append]; omega
    simp only [go_sem, ↓reduceIte, Nat.reduceEqDiff, reduceCtorEq, Nat.reduceAdd, Nat.reduceLeDiff, Nat.reduceMul, k3, k14, k15, k16, hia, hH, ho, hr, hp, exps, fillL, zeros_3]
    refine go_draw ?_
    simp only [go_sem, ↓reduceIte, Nat.reduceEqDiff, reduceCtorEq, Nat.reduceAdd, Nat.reduceLeDiff, Nat.reduceMul, k3, k14, k15, k16, hH, c69', hw, hs.len, z1, z2, z3]
    refine ⟨by rfl, ?_⟩
    refine go_for a.2.1.length (fun j t => t.H = H ∧ t.ρ 3 = .val (.string (addS (showT l i ++ varB a.1 ++ varB a.2.2 ++ varB (a.2.1.length : Int)) a.2.1 j)) ∧ t.ρ 14 = .val v ∧ t.ρ 15 = .val (.int .i64 l.length) ∧ t.ρ 16 = .val (.int .i64 i) ∧ t.ρ 35 = .val w ∧ t.ρ 36 = .val (.int .i64 a.2.1.length) ∧ t.ρ 37 = .val (.int .i64 j))
      (fun t => t.H = H ∧ t.ρ 3 = .val (.string (showT l (i + 1))) ∧ t.ρ 14 = .val v ∧ t.ρ 15 = .val (.int .i64 l.length) ∧ t.ρ 16 = .val (.int .i64 i)) ?_ ?_ ?_
    · exact ⟨by first | exact hH | rfl, by simp [upd, addS], by simp [upd, k14], by simp [upd, k15], by simp [upd, k16], by simp [upd], by simp [upd], by simp [upd]⟩
    · clear k3 k14 k15 k16 hH
      rintro j t hj ⟨hH, k3, k14, k15, k16, k35, k36, k37⟩
      simp only [go_sem, ↓reduceIte, Nat.reduceEqDiff, reduceCtorEq, Nat.reduceAdd, Nat.reduceLeDiff, Nat.reduceMul, k3, k14, k15, k16, k35, k36, k37]
      cases d1 : decide ((j : Int) < (a.2.1.length : Int)) <;> simp only [go_sem, ↓reduceIte, Nat.reduceEqDiff, reduceCtorEq, Nat.reduceAdd, Nat.reduceLeDiff, Nat.reduceMul, k3, k14, k15, k16, k35, k36, k37, d1]
      · have : j = a.2.1.length := by have := of_decide_eq_false d1; omega
        subst this
        rw [hnext]
        exact ⟨hH, by first | rfl | simp [ruS]⟩
      have hjl : j < a.2.1.length := by have := of_decide_eq_true d1; omega
      have wj := wrap64 ((j : Int) + 1) (by omega) (by omega)
      obtain ⟨id2, q2, o2, ho2, hr2, hia2⟩ := hs.int (List.getElem?_eq_getElem hjl)
      have hst : ∀ s : ByteArray, addS s a.2.1 (j + 1) = addS s a.2.1 j ++ varB a.2.1[j] := fun s => by rw [addS]; simp [hjl]
      have b4 := varB_size a.2.1[j]
      have b5 := addS_size (showT l i ++ varB a.1 ++ varB a.2.2 ++ varB (a.2.1.length : Int)) a.2.1 j
      have z4 : (addS (showT l i ++ varB a.1 ++ varB a.2.2 ++ varB (a.2.1.length : Int)) a.2.1 j).size + (varB a.2.1[j]).size ≤ 9223372036854775807 := by omega
      simp only [go_sem, ↓reduceIte, Nat.reduceEqDiff, reduceCtorEq, Nat.reduceAdd, Nat.reduceLeDiff, Nat.reduceMul, k3, k14, k15, k16, k35, k36, k37, hia2, hH, ho2, hr2, c69', hw, wj, hst, z4]
      exact ⟨hjl, by simp⟩
    · clear k3 k14 k15 k16 hH
      rintro t ⟨hH, k3, k14, k15, k16⟩
      simp only [go_sem, ↓reduceIte, Nat.reduceEqDiff, reduceCtorEq, Nat.reduceAdd, Nat.reduceLeDiff, Nat.reduceMul, k3, k14, k15, k16, wi]
      exact ⟨hil, hH, by simp⟩
  · rintro s ⟨hH, k3⟩
    simp only [go_sem, ↓reduceIte, Nat.reduceEqDiff, reduceCtorEq, Nat.reduceAdd, Nat.reduceLeDiff, Nat.reduceMul, k3, hH]
    rw [show showR l = showT l l.length by unfold showR; rw [if_pos q]]
end Go.Proofs.Ytceilcdhflcbpaa.Ev

/- Draws of rules: rows that grow while a cursor goes on. -/
namespace Go.Proofs.Ytceilcdhflcbpaa.Ev
set_option linter.all false
open Go
set_option maxRecDepth 4000

theorem Sl.still {α : Type} {R : α → List Value → Prop} {esz : Nat} {H H' : Hp} {v : Value} {l : List α} (h : Sl R esz H v l) (hk : ∀ j ∈ idsOf v, H'[j]? = H[j]?) : Sl R esz H' v l :=
  h.frame (fun _ _ _ h => h) fun id off e ln cap hv => hk id (by subst hv; simp [idsOf])
def allIds (v : Value) (l : List Rx) (j : Nat) : Prop := j ∈ idsOf v ∨ ∃ x ∈ l, j ∈ idsOf x.2
theorem RL.still {N : Nat} {H H' : Hp} {v : Value} {l : List Rx} (h : RL N H v l) (hk : ∀ j, allIds v l j → H'[j]? = H[j]?) : RL N H' v l :=
  ⟨h.sl.frame (fun x hx cs ⟨e, p⟩ => ⟨e, p.still fun j hj => hk j (.inr ⟨x, hx, hj⟩)⟩) fun id off e ln cap hv => hk id (.inl (by subst hv; simp [idsOf])), h.own, h.far⟩
theorem RL.ge {N : Nat} {H : Hp} {v : Value} {l : List Rx} (h : RL N H v l) : ∀ j, allIds v l j → N ≤ j ∧ j < H.length := fun j hj => by
  rcases hj with hj | ⟨x, hx, hj⟩
  · exact ⟨own_ge h.own j hj, h.sl.ids j hj⟩
  · exact ⟨(h.far x hx j hj).2, (h.part x hx).ids j hj⟩
theorem RL.cs {N : Nat} {H H' : Hp} {v c : Value} {l : List Rx} {id : Nat} (h : RL N H v l) (hid : id < N) (k : CS H H' c id) : RL N H' v l := h.still fun j hj => k.2.1 j (by have := (h.ge j hj).1; omega)
theorem RL.cx {N : Nat} {H H' : Hp} {v c : Value} {l : List Rx} {id : Nat} (h : RL N H v l) (hid : id < N) (k : CX H H' c id) : RL N H' v l := h.still fun j hj => k.2.1 j (h.ge j hj).2 (by have := (h.ge j hj).1; omega)
def ND (l : List Rx) : Prop := l.Pairwise fun x y => ∀ j ∈ idsOf x.2, j ∉ idsOf y.2

/-- Rules drawn, a rule being drawn. -/
structure DU (H : Hp) (M : Nat) (H' : Hp) (c : Value) (id : Nat) (wv : Value) (l : List Rx) (w : Value) (p : List Int) : Prop where
  cx : CX H H' c id
  rl : RL H.length H' wv l
  nd : ND l
  lt : ∀ j, allIds wv l j → j < M
  sw : SlI H' w p
  ow : OwnS M w
  le : M ≤ H'.length
  ge : H.length ≤ M
theorem DU.cs {H H1 H2 : Hp} {M id : Nat} {c wv w : Value} {l : List Rx} {p : List Int} (h : DU H M H1 c id wv l w p) (hid : id < H.length) (k : CS H1 H2 c id) : DU H M H2 c id wv l w p :=
  have h1 := h.ge
  have h3 : H2.length = H1.length := k.2.2
  ⟨h.cx.trans k.cx, h.rl.cs hid k, h.nd, h.lt, h.sw.cs k (own_notin h.ow (by omega)), h.ow, by have := h.le; omega, h1⟩
theorem DU.one {m : Md} {H H1 : Hp} {M id : Nat} {c wv w : Value} {l : List Rx} {p : List Int} (a : Int) (h : DU H M H1 c id wv l w p) (hid : id < H.length) (hw : Wr m H) (hb : p.length ≤ 1048576) :
    ∃ w' H2, (∀ (s : St) (x b : X), s.H = H1 → exv s.ρ x = some w → ex s.ρ b = .vs 1 [.int .i64 a] → appK m s 1 8 x b = some (.val w', { s with H := H2 })) ∧ DU H M H2 c id wv l w' (p ++ [a]) := by
  have hge := h.ge
  have hle := h.le
  obtain ⟨w', H2, a1, a2, a3, a4, a5, a6, a7⟩ := h.sw.oneI (m := m) a h.ow h.le (fun i hi => hw i (by omega)) hb
  have hn : ∀ j, j < M → j ∉ idsOf w := fun j hj hm => by have := own_ge h.ow j hm; omega
  exact ⟨w', H2, a1, h.cx.own hid (fun j hj => a4 j (by omega) (hn j (by omega))) a5, h.rl.still (fun j hj => a4 j (by have := h.lt j hj; omega) (hn j (h.lt j hj))), h.nd, h.lt, a2, a3, by omega, hge⟩
theorem DU.push {m : Md} {H H1 : Hp} {M id : Nat} {c wv w : Value} {l : List Rx} {p : List Int} (k n : Int) (h : DU H M H1 c id wv l w p) (hid : id < H.length) (hw : Wr m H) (hnr : m.nr = false) (hb : l.length ≤ 1000) :
    ∃ v' H2, (∀ (st : St) (a b : X), st.H = H1 → exv st.ρ a = some wv → ex st.ρ b = .vs 1 [.int .i64 k, w, .int .i64 n] → appK m st 3 40 a b = some (.val v', { st with H := H2 })) ∧ RL H.length H2 v' (l ++ [((k, p, n), w)]) ∧ ND (l ++ [((k, p, n), w)]) ∧ CX H H2 c id := by
  have hge := h.ge
  have hle := h.le
  obtain ⟨v', H2, a1, a2, a3, a4, a5, a6⟩ := h.rl.push (m := m) (a := (k, p, n)) (by omega) h.sw (fun j hj => by
    have := own_ge h.ow j hj
    exact ⟨fun hm => by have := h.lt j (.inl hm); omega, by omega⟩) (fun i hi => hw i (by omega)) hnr hb
  refine ⟨v', H2, a1, a2, ?_, h.cx.own hid (fun j hj => a3 j (by omega) (own_notin h.rl.own hj)) a4⟩
  unfold ND
  refine List.pairwise_append.2 ⟨h.nd, by simp, fun x hx y hy j hj hm => ?_⟩
  rw [List.mem_singleton] at hy
  subst hy
  have h1 := h.lt j (.inr ⟨x, hx, hj⟩)
  have h2 := own_ge h.ow j hm
  omega
/-- One rule's set changed in its own row. -/
theorem RL.put2 {N : Nat} {H H5 : Hp} {v w' : Value} {l : List Rx} {k : Nat} {a' : Ru} (h : RL N H v l) (hnd : ND l) (hk : k < l.length) (hN : N ≤ H.length) (hf : ∀ j, j < H.length → j ∉ idsOf l[k].2 → H5[j]? = H[j]?)
    (hy : SlI H5 w' a'.2.1) (hids : ∀ j ∈ idsOf w', j ∈ idsOf l[k].2 ∨ H.length ≤ j) :
    ∃ id p o, H5[id]? = some o ∧ N ≤ id ∧ p + 3 ≤ o.length ∧ (o.drop p).take 3 = [.int .i64 l[k].1.1, l[k].2, .int .i64 l[k].1.2.2] ∧ (∀ (s : St) (x y : X), exv s.ρ x = some v → exv s.ρ y = some (.int .i64 k) → iadrK s 3 x y = some (.val (.pointer (some ⟨id, p, some o.length⟩)), s)) ∧
      RL N (H5.set id (spl o p [.int .i64 a'.1, w', .int .i64 a'.2.2])) v (l.set k (a', w')) := by
  have hkm := List.getElem_mem hk
  have hvf : ∀ j ∈ idsOf v, H5[j]? = H[j]? := fun j hj => hf j (h.sl.ids j hj) fun hm => (h.far _ hkm j hm).1 hj
  have sh : Sl (fun (z : Rx) cs => cs = [.int .i64 z.1.1, z.2, .int .i64 z.1.2.2]) 3 H5 v l := (h.sl.frame (fun _ _ _ h => h.1) fun _ _ _ _ _ _ => rfl : Sl _ 3 H v l).still hvf
  obtain ⟨id, p, o, ho, hp, hid, hR, hia, hst⟩ := sh.both hk
  have hidv : id ∈ idsOf v := by rw [hid]; simp
  have hidl := h.sl.ids id hidv
  have hst := hst (a', w') [.int .i64 a'.1, w', .int .i64 a'.2.2] rfl rfl
  have hnw : ∀ j ∈ idsOf w', j ∉ idsOf v ∧ N ≤ j := fun j hj => by
    rcases hids j hj with h2 | h2
    · exact h.far _ hkm j h2
    · exact ⟨fun hm => by have := h.sl.ids j hm; omega, by omega⟩
  have hset : ∀ j, j ≠ id → ∀ r, (H5.set id r)[j]? = H5[j]? := fun j hj r => List.getElem?_set_ne (fun e => hj e.symm)
  have hall : ∀ x ∈ l.set k (a', w'), SlI (H5.set id (spl o p [.int .i64 a'.1, w', .int .i64 a'.2.2])) x.2 x.1.2.1 ∧ ∀ j ∈ idsOf x.2, j ∉ idsOf v ∧ N ≤ j := fun x hx => by
    obtain ⟨i, hi, e⟩ := List.mem_iff_getElem.1 hx
    rw [List.length_set] at hi
    by_cases hik : k = i
    · subst hik
      rw [List.getElem_set_self] at e
      subst e
      exact ⟨hy.other fun hm => (hnw id hm).1 hidv, hnw⟩
    · rw [List.getElem_set_ne hik] at e
      subst e
      have hm := List.getElem_mem hi
      refine ⟨(h.part _ hm).still fun j hj => ?_, h.far _ hm⟩
      have hj2 := (h.far _ hm j hj).1
      rw [hset j (fun e => hj2 (e ▸ hidv))]
      refine hf j ((h.part _ hm).ids j hj) fun hjk => ?_
      rcases Nat.lt_or_gt_of_ne hik with h3 | h3
      · exact List.pairwise_iff_getElem.1 hnd k i hk hi h3 j hjk hj
      · exact List.pairwise_iff_getElem.1 hnd i k hi hk h3 j hj hjk
  exact ⟨id, p, o, ho, own_ge h.own id hidv, hp, hR, hia, hst.frame (fun x hx cs e => ⟨e, (hall x hx).1⟩) fun _ _ _ _ _ _ => rfl, h.own, fun x hx => (hall x hx).2⟩
theorem CX.set {H H' : Hp} {c : Value} {id i : Nat} {r : List Value} (h : CX H H' c id) (hid : id < H.length) (hn : H.length ≤ i) : CX H (H'.set i r) c id :=
  h.own hid (fun j hj => List.getElem?_set_ne (by omega)) (by rw [List.length_set]; exact Nat.le_refl _)
/-- A rule's parts changed, its set's row as it is. -/
theorem RL.put1 {N : Nat} {H : Hp} {v : Value} {l : List Rx} {i : Nat} (h : RL N H v l) (hi : i < l.length) (k n : Int) :
    ∃ id p o, H[id]? = some o ∧ p + 3 ≤ o.length ∧ N ≤ id ∧ (o.drop p).take 3 = [.int .i64 l[i].1.1, l[i].2, .int .i64 l[i].1.2.2] ∧ (∀ (s : St) (x y : X), exv s.ρ x = some v → exv s.ρ y = some (.int .i64 i) → iadrK s 3 x y = some (.val (.pointer (some ⟨id, p, some o.length⟩)), s)) ∧
      RL N (H.set id (spl o p [.int .i64 k, l[i].2, .int .i64 n])) v (l.set i ((k, l[i].1.2.1, n), l[i].2)) := by
  obtain ⟨id, p, o, ho, hp, hn, hv, hR, hia, hput⟩ := h.put (a := (k, l[i].1.2.1, n)) (w := l[i].2) hi (h.part _ (List.getElem_mem hi)) (h.far _ (List.getElem_mem hi))
  exact ⟨id, p, o, ho, hp, hn, hR, hia, hput⟩
theorem Sl.oneU {m : Md} {N : Nat} {H : Hp} {v : Value} {l : List Int} (a : Int) (h : SlU H v l) (ho : OwnS N v) (hN : N ≤ H.length) (hw : ∀ id, N ≤ id → m.wr id = true) (hb : l.length ≤ 1048576) :
    ∃ v' H', (∀ (s : St) (x y : X), s.H = H → exv s.ρ x = some v → ex s.ρ y = .vs 1 [.int .u8 a] → appK m s 1 1 x y = some (.val v', { s with H := H' })) ∧ SlU H' v' (l ++ [a]) ∧ OwnS N v' ∧
      (∀ j, j < H.length → j ∉ idsOf v → H'[j]? = H[j]?) ∧ H.length ≤ H'.length ∧ (∀ j ∈ idsOf v', j ∈ idsOf v ∨ H.length ≤ j) ∧ ∀ H0 : Hp, H0.length ≤ N → H0 <+: H → H0 <+: H' := by
  obtain ⟨v', H', h1, h2⟩ := h.app (m := m) (n := 1) (bytes := 1) (l2 := [a]) (cs := [.int .u8 a]) ho hN hw (fun _ => rfl) (by simp) rfl (fun i b hi => by
    cases i with
    | zero => simp at hi; subst hi; rfl
    | succ i => simp at hi) (by unfold Ev.room; simp; omega) (by unfold Ev.room; simp; omega)
  exact ⟨v', H', fun s x y hH hx hy => h1 s x y hH hx (by rw [hy]; rfl), h2⟩
/-- Other bytes for every round. -/
theorem f37 {m : Md} {H : Hp} {v : Value} {cl : List Int} {n : Int} (hv : SlU H v cl) (hw : Wr m H) : Fun EE m 37 [v, .int .i64 n] H fun r H' => ∃ l, SlU H' r l ∧ H <+: H' := by
  refine fun_f rfl rfl k37 (by simp [c37]) ?_
  have hroom := hv.room
  have n7 : ¬ ((7 : Int) = 0) := by decide
  have p0 : ∀ z : Value, H <+: H ++ [[z]] := fun z => List.prefix_append _ _
  have s0 : ∀ z : Int, SlU (H ++ [[.int .u8 z]]) (.slice (some ⟨H.length, 0, some 1⟩) 1 1) [z] := fun z => .inr ⟨H.length, 0, 1, [.int .u8 z], rfl, by simp, by simp, by simp, by simp, fun i a hi => by
    cases i with
    | zero => simp at hi; subst hi; rfl
    | succ i => simp at hi⟩
  simp only [go_sem, ↓reduceIte, Nat.reduceEqDiff, reduceCtorEq, Nat.reduceAdd, Nat.reduceLeDiff, Nat.reduceMul, c37, fillL, zeros_1]
  refine go_for 600 (fun i s => H <+: s.H ∧ s.ρ 0 = .val v ∧ s.ρ 1 = .val (.int .i64 n) ∧ s.ρ 6 = .val (.int .i64 i) ∧ ∃ wv l, s.ρ 5 = .val wv ∧ SlU s.H wv l ∧ OwnS H.length wv ∧ l.length ≤ i + 1)
    (fun s => H <+: s.H ∧ ∃ wv l, s.ρ 5 = .val wv ∧ SlU s.H wv l) ?_ ?_ ?_
  · exact ⟨p0 _, by simp [upd, ini], by simp [upd, ini], by simp [upd], _, _, by simp [upd], s0 _, .inr ⟨_, _, _, _, rfl, Nat.le_refl _⟩, by simp⟩
  · rintro i s hi ⟨kH, k0, k1, k6, wv, l, k5, ws, wo, wl⟩
    have vk := hv.pre kH
    simp only [go_sem, ↓reduceIte, Nat.reduceEqDiff, reduceCtorEq, Nat.reduceAdd, Nat.reduceLeDiff, Nat.reduceMul, k0, k1, k5, k6, vk.len]
    cases c1 : decide ((i : Int) < (cl.length : Int)) <;> simp only [go_sem, ↓reduceIte, Nat.reduceEqDiff, reduceCtorEq, Nat.reduceAdd, Nat.reduceLeDiff, Nat.reduceMul, k0, k1, k5, k6, c1]
    · exact ⟨kH, wv, l, rfl, ws⟩
    cases c2 : decide ((i : Int) < 600) <;> simp only [go_sem, ↓reduceIte, Nat.reduceEqDiff, reduceCtorEq, Nat.reduceAdd, Nat.reduceLeDiff, Nat.reduceMul, k0, k1, k5, k6, c2]
    · exact ⟨kH, wv, l, rfl, ws⟩
    have hil : i < cl.length := by have := of_decide_eq_true c1; omega
    have hi6 : i < 600 := by have := of_decide_eq_true c2; omega
    have wi := wrap64 ((i : Int) + 1) (by omega) (by omega)
    obtain ⟨id, q, o, ho, hr, hia⟩ := vk.byte (List.getElem?_eq_getElem hil)
    simp only [go_sem, ↓reduceIte, Nat.reduceEqDiff, reduceCtorEq, Nat.reduceAdd, Nat.reduceLeDiff, Nat.reduceMul, k0, k1, k5, k6, hia, ho, hr, n7]
    generalize hz : IntKind.u8.wrap _ = z
    obtain ⟨v5, H5, e1, e2, e3, e4, e5, e6, e7⟩ := ws.oneU (m := m) z wo kH.length_le hw (by omega)
    rw [e1]
    rotate_left
    · rfl
    · rfl
    · rfl
    simp only [go_sem, ↓reduceIte, Nat.reduceEqDiff, reduceCtorEq, Nat.reduceAdd, Nat.reduceLeDiff, Nat.reduceMul, k0, k1, k5, k6, wi]
    exact ⟨hi6, e7 H (Nat.le_refl _) kH, by simp, v5, _, rfl, e2, e3, by simp; omega⟩
  · rintro s ⟨kH, wv, l, k5, ws⟩
    simp only [go_sem, ↓reduceIte, Nat.reduceEqDiff, reduceCtorEq, Nat.reduceAdd, Nat.reduceLeDiff, Nat.reduceMul, k5]
    exact ⟨l, ws, kH⟩
end Go.Proofs.Ytceilcdhflcbpaa.Ev

/- Rules drawn. -/
namespace Go.Proofs.Ytceilcdhflcbpaa.Ev
set_option linter.all false
open Go
set_option maxRecDepth 4000

def UsD (H : Hp) (c : Value) (id : Nat) (r : Value) (H' : Hp) : Prop := ∃ l, RL H.length H' r l ∧ CX H H' c id
theorem f55 {m : Md} {H : Hp} {c : Value} {id : Nat} {most : Int} (hc : Cur H c id) (hw0 : Wr m H) (hw : m.wr id = true) (hnr : m.nr = false) (hm0 : 0 < most) (hm : most ≤ 10) : Fun EE m 55 [c, .int .i64 most] H fun r H' => UsD H c id r H' := by
  refine fun_f rfl rfl k55 (by simp [c55]) ?_
  have hid := hc.lt
  have hcp := hc.1
  subst hcp
  have p0 : H <+: H ++ [[]] := List.prefix_append _ _
  have s0 := RL.new (H := H)
  generalize hwv : Value.slice (some ⟨H.length, 0, some 3⟩) 0 (0 * 3) = wv0 at s0
  have c0 := CX.ofPre hc p0
  simp only [go_sem, ↓reduceIte, Nat.reduceEqDiff, reduceCtorEq, Nat.reduceAdd, Nat.reduceLeDiff, Nat.reduceMul, c55, fillL, hwv]
  refine callD (f51 c0.1 hw) rfl fun r H1 ⟨n0, e, y0, y1, _, cs1⟩ => ?_
  subst e
  obtain ⟨n, rfl⟩ : ∃ n : Nat, n0 = n := ⟨n0.toNat, by omega⟩
  have y1 := y1 hm0
  have c1 := c0.trans cs1.cx
  have s1 := s0.cs hid cs1
  simp only [go_sem, ↓reduceIte, Nat.reduceEqDiff, reduceCtorEq, Nat.reduceAdd, Nat.reduceLeDiff, Nat.reduceMul]
  refine go_loop (fun n t => t.ρ 0 = .val (.pointer (some ⟨id, 0, some 3⟩)) ∧ t.ρ 6 = .val (.int .i64 n) ∧ CX H t.H (.pointer (some ⟨id, 0, some 3⟩)) id ∧ ∃ wv L, t.ρ 5 = .val wv ∧ RL H.length t.H wv L ∧ ND L ∧ L.length + n ≤ 10 ∧ ∀ x ∈ L, OwnS H.length x.2 ∧ x.1.2.1.length ≤ 5)
    (fun t => t.ρ 0 = .val (.pointer (some ⟨id, 0, some 3⟩)) ∧ CX H t.H (.pointer (some ⟨id, 0, some 3⟩)) id ∧ ∃ wv L, t.ρ 5 = .val wv ∧ RL H.length t.H wv L ∧ ND L ∧ L.length ≤ 10 ∧ ∀ x ∈ L, OwnS H.length x.2 ∧ x.1.2.1.length ≤ 5) n ?_ ?_ ?_
  · exact ⟨by simp [upd, ini], by simp [upd], c1, wv0, [], by simp [upd], s1, by simp [ND], by simp; omega, by simp⟩
  · rintro n s ⟨k0, k6, kc, wv, L, k5, sL, nL, lL, oL⟩
    simp only [go_sem, ↓reduceIte, Nat.reduceEqDiff, reduceCtorEq, Nat.reduceAdd, Nat.reduceLeDiff, Nat.reduceMul, k0, k5, k6]
    cases qn : decide ((n : Int) > 0) <;> simp only [go_sem, ↓reduceIte, Nat.reduceEqDiff, reduceCtorEq, Nat.reduceAdd, Nat.reduceLeDiff, Nat.reduceMul, k0, k5, k6, qn]
    · exact ⟨kc, wv, L, rfl, sL, nL, by omega, oL⟩
    have hn : 0 < n := by have := of_decide_eq_true qn; omega
    have wn : IntKind.i64.wrap ((n : Int) - 1) = ((n - 1 : Nat) : Int) := by rw [wrap64 _ (by omega) (by omega)]; omega
    refine callD (f51 kc.1 hw) rfl fun r H2 ⟨x, e, x0, x1, _, cs2⟩ => ?_
    subst e
    have x1 := x1 (by omega)
    have wx := wrap64 (1 + x) (by omega) (by omega)
    have c2 := kc.trans cs2.cx
    have s2 := sL.cs hid cs2
    have D0 : DU H H2.length H2 (.pointer (some ⟨id, 0, some 3⟩)) id wv L (.slice none 0 0) [] := ⟨c2, s2, nL, fun j hj => (s2.ge j hj).2, .inl ⟨rfl, rfl⟩, .inl rfl, Nat.le_refl _, c2.2.2⟩
    simp only [go_sem, ↓reduceIte, Nat.reduceEqDiff, reduceCtorEq, Nat.reduceAdd, Nat.reduceLeDiff, Nat.reduceMul, k0, k5, k6, wx, exps, buildK, fillL, zeros_3]
    have done : ∀ (t : St) (p : List Int) (w : Value) (kk nn : Int) (g : Nat), t.ρ 0 = .val (.pointer (some ⟨id, 0, some 3⟩)) → t.ρ 5 = .val wv → t.ρ 6 = .val (.int .i64 n) → t.ρ 7 = .bx g [.int .i64 kk, w, .int .i64 nn] → DU H H2.length t.H (.pointer (some ⟨id, 0, some 3⟩)) id wv L w p → p.length ≤ 5 →
        ∃ v' H3, (∀ (st : St) (a b : X), st.H = t.H → exv st.ρ a = some wv → ex st.ρ b = .vs 1 [.int .i64 kk, w, .int .i64 nn] → appK m st 3 40 a b = some (.val v', { st with H := H3 })) ∧ RL H.length H3 v' (L ++ [((kk, p, nn), w)]) ∧ ND (L ++ [((kk, p, nn), w)]) ∧ CX H H3 (.pointer (some ⟨id, 0, some 3⟩)) id ∧ ∀ x ∈ L ++ [((kk, p, nn), w)], OwnS H.length x.2 ∧ x.1.2.1.length ≤ 5 := by
      intro t p w kk nn g t0 t5 t6 t7 D hp5
      obtain ⟨v', H3, a1, a2, a3, a4⟩ := D.push (m := m) kk nn hid hw0 hnr (by omega)
      refine ⟨v', H3, a1, a2, a3, a4, fun x hx => ?_⟩
      rcases List.mem_append.1 hx with hx | hx
      · exact oL x hx
      · rw [List.mem_singleton] at hx
        subst hx
        exact ⟨D.ow.mono D.ge, hp5⟩
    cases q3 : decide (1 + x ≤ 3) <;> simp only [go_sem, ↓reduceIte, Nat.reduceEqDiff, reduceCtorEq, Nat.reduceAdd, Nat.reduceLeDiff, Nat.reduceMul, k0, k5, k6, q3]
    · refine callD (f51 c2.1 hw) rfl fun r H3 ⟨y, e, y0, y1, _, cs3⟩ => ?_
      subst e
      have D1 := D0.cs hid cs3
      obtain ⟨v', H4, a1, a2, a3, a4, a5⟩ := done { s with H := H3, ρ := upd s.ρ (some 7) (.bx 0 [.int .i64 (1 + x), .slice none 0 0, .int .i64 y]) } [] (.slice none 0 0) (1 + x) y 0 (by simp [upd, k0]) (by simp [upd, k5]) (by simp [upd, k6]) (by simp [upd]) D1 (by simp)
      simp only [go_sem, ↓reduceIte, Nat.reduceEqDiff, reduceCtorEq, Nat.reduceAdd, Nat.reduceLeDiff, Nat.reduceMul, k0, k5, k6]
      rw [a1]
      rotate_left
      · rfl
      · rfl
      · rfl
      simp only [go_sem, ↓reduceIte, Nat.reduceEqDiff, reduceCtorEq, Nat.reduceAdd, Nat.reduceLeDiff, Nat.reduceMul, k0, k5, k6, wn]
      exact ⟨n - 1, by omega, rfl, a4, v', _, rfl, a2, a3, by simp; omega, a5⟩
    · refine go_for 5 (fun i t => t.ρ 0 = .val (.pointer (some ⟨id, 0, some 3⟩)) ∧ t.ρ 5 = .val wv ∧ t.ρ 6 = .val (.int .i64 n) ∧ t.ρ 8 = .val (.int .i64 i) ∧ ∃ g w p, t.ρ 7 = .bx g [.int .i64 (1 + x), w, .int .i64 0] ∧ DU H H2.length t.H (.pointer (some ⟨id, 0, some 3⟩)) id wv L w p ∧ p.length ≤ i)
        (fun t => t.ρ 0 = .val (.pointer (some ⟨id, 0, some 3⟩)) ∧ t.ρ 5 = .val wv ∧ t.ρ 6 = .val (.int .i64 n) ∧ ∃ g w p, t.ρ 7 = .bx g [.int .i64 (1 + x), w, .int .i64 0] ∧ DU H H2.length t.H (.pointer (some ⟨id, 0, some 3⟩)) id wv L w p ∧ p.length ≤ 5) ?_ ?_ ?_
      · exact ⟨by simp [upd, k0], by simp [upd, k5], by simp [upd, k6], by simp [upd], _, _, [], by simp [upd]; rfl, D0, by simp⟩
      · rintro i t hi ⟨t0, t5, t6, t8, g, w, p, t7, D, hp⟩
        simp only [go_sem, ↓reduceIte, Nat.reduceEqDiff, reduceCtorEq, Nat.reduceAdd, Nat.reduceLeDiff, Nat.reduceMul, t0, t5, t6, t7, t8]
        cases d1 : decide ((i : Int) < 5) <;> simp only [go_sem, ↓reduceIte, Nat.reduceEqDiff, reduceCtorEq, Nat.reduceAdd, Nat.reduceLeDiff, Nat.reduceMul, t0, t5, t6, t7, t8, d1]
        · exact ⟨_, w, p, rfl, D, by omega⟩
        have hi5 : i < 5 := by have := of_decide_eq_true d1; omega
        have wi := wrap64 ((i : Int) + 1) (by omega) (by omega)
        refine callD (f58 D.cx.1 hw) rfl fun r H3 ⟨b, e, cs3⟩ => ?_
        subst e
        have D1 := D.cs hid cs3
        cases b with
        | true =>
          simp only [go_sem, ↓reduceIte, Nat.reduceEqDiff, reduceCtorEq, Nat.reduceAdd, Nat.reduceLeDiff, Nat.reduceMul, t0, t5, t6, t7, t8, wi]
          exact ⟨hi5, by simp, _, w, p, rfl, D1, by omega⟩
        | false =>
          obtain ⟨w', H4, a1, a2⟩ := D1.one (m := m) (i : Int) hid hw0 (by omega)
          simp only [go_sem, ↓reduceIte, Nat.reduceEqDiff, reduceCtorEq, Nat.reduceAdd, Nat.reduceLeDiff, Nat.reduceMul, t0, t5, t6, t7, t8]
          rw [a1]
          rotate_left
          · rfl
          · rfl
          · rfl
          simp only [go_sem, ↓reduceIte, Nat.reduceEqDiff, reduceCtorEq, Nat.reduceAdd, Nat.reduceLeDiff, Nat.reduceMul, t0, t5, t6, t7, t8, wi, a2.sw.vc]
          exact ⟨hi5, by simp, _, w', _, rfl, a2, by simp; omega⟩
      · rintro t ⟨t0, t5, t6, g, w, p, t7, D, hp⟩
        obtain ⟨v', H4, a1, a2, a3, a4, a5⟩ := done t p w (1 + x) 0 g t0 t5 t6 t7 D hp
        simp only [go_sem, ↓reduceIte, Nat.reduceEqDiff, reduceCtorEq, Nat.reduceAdd, Nat.reduceLeDiff, Nat.reduceMul, t0, t5, t6, t7]
        rw [a1]
        rotate_left
        · rfl
        · rfl
        · rfl
        simp only [go_sem, ↓reduceIte, Nat.reduceEqDiff, reduceCtorEq, Nat.reduceAdd, Nat.reduceLeDiff, Nat.reduceMul, t0, t5, t6, t7, wn]
        exact ⟨n - 1, by omega, rfl, a4, v', _, rfl, a2, a3, by simp; omega, a5⟩
  · rintro s ⟨k0, kc, wv, L, k5, sL, nL, lL, oL⟩
    have hnr' : m.nr = true → False := fun h => by rw [hnr] at h; cases h
    simp only [go_sem, ↓reduceIte, Nat.reduceEqDiff, reduceCtorEq, Nat.reduceAdd, Nat.reduceLeDiff, Nat.reduceMul, k0, k5, sL.sl.len]
    cases q0 : decide ((L.length : Int) > 0) <;> simp only [go_sem, ↓reduceIte, Nat.reduceEqDiff, reduceCtorEq, Nat.reduceAdd, Nat.reduceLeDiff, Nat.reduceMul, k0, k5, q0]
    · exact ⟨L, sL, kc⟩
    have hL0 : 0 < L.length := by have := of_decide_eq_true q0; omega
    refine callD (f58 kc.1 hw) rfl fun r H2 ⟨b, e, cs2⟩ => ?_
    subst e
    have c2 := kc.trans cs2.cx
    have s2 := sL.cs hid cs2
    cases b with
    | false =>
      simp only [go_sem, ↓reduceIte, Nat.reduceEqDiff, reduceCtorEq, Nat.reduceAdd, Nat.reduceLeDiff, Nat.reduceMul, k0, k5]
      exact ⟨L, s2, c2⟩
    | true =>
    simp only [go_sem, ↓reduceIte, Nat.reduceEqDiff, reduceCtorEq, Nat.reduceAdd, Nat.reduceLeDiff, Nat.reduceMul, k0, k5, s2.sl.len]
    refine callD (f51 c2.1 hw) rfl fun r H3 ⟨kk, e, x0, x1, _, cs3⟩ => ?_
    subst e
    have x1 := x1 (by omega)
    obtain ⟨k, rfl⟩ : ∃ k : Nat, kk = k := ⟨kk.toNat, by omega⟩
    have hk : k < L.length := by omega
    have c3 := c2.trans cs3.cx
    have s3 := s2.cs hid cs3
    simp only [go_sem, ↓reduceIte, Nat.reduceEqDiff, reduceCtorEq, Nat.reduceAdd, Nat.reduceLeDiff, Nat.reduceMul, k0, k5]
    refine callD (f51 c3.1 hw) rfl fun r H4 ⟨z, e, z0, z1, _, cs4⟩ => ?_
    subst e
    have z1 := z1 (by omega)
    have c4 := c3.trans cs4.cx
    have s4 := s3.cs hid cs4
    have n4 := c4.2.2
    simp only [go_sem, ↓reduceIte, Nat.reduceEqDiff, reduceCtorEq, Nat.reduceAdd, Nat.reduceLeDiff, Nat.reduceMul, k0, k5]
    cases qa : decide (z = 0) <;> simp only [go_sem, ↓reduceIte, Nat.reduceEqDiff, reduceCtorEq, Nat.reduceAdd, Nat.reduceLeDiff, Nat.reduceMul, k0, k5, qa]
    rotate_left
    · have hl := sl_ints (H := H4) [0, 6, 3, 4] (by simp)
      have pn := List.prefix_append H4 [[(0 : Int), 6, 3, 4].map (Value.int .i64)]
      have cn := c4.trans (CX.ofPre c4.1 pn)
      have sn := s4.pre pn
      (try simp only [go_sem, ↓reduceIte, Nat.reduceEqDiff, reduceCtorEq, Nat.reduceAdd, Nat.reduceLeDiff, Nat.reduceMul, k0, k5, fillL, zeros_4])
      refine callD (f52 cn.1 hw hl (by simp) (by simp [idsOf]; omega)) rfl fun r H5 ⟨y, _, e, cs5⟩ => ?_
      subst e
      have c5 := cn.trans cs5.cx
      have s5 := sn.cs hid cs5
      obtain ⟨id1, p1, o1, ho1, hp1, hn1, hR1, hia1, hput⟩ := s5.put1 hk y L[k].1.2.2
      have hsp : spl o1 p1 [Value.int .i64 y] = _ := spl_one (x := Value.int .i64 y) hR1 (j := 0) (by omega) hp1
      have w1 := hw0 id1 hn1
      have hp1' : p1 + 1 ≤ o1.length := by omega
      simp only [go_sem, ↓reduceIte, Nat.reduceEqDiff, reduceCtorEq, Nat.reduceAdd, Nat.reduceLeDiff, Nat.reduceMul, k0, k5]
      rw [hia1]
      rotate_left
      · rfl
      · rfl
      simp only [go_sem, ↓reduceIte, Nat.reduceEqDiff, reduceCtorEq, Nat.reduceAdd, Nat.reduceLeDiff, Nat.reduceMul, k0, k5, ho1, w1, hp1']
      rw [hsp]
      exact ⟨_, hput, c5.set hid hn1⟩
    cases qb : decide (z = 1) <;> simp only [go_sem, ↓reduceIte, Nat.reduceEqDiff, reduceCtorEq, Nat.reduceAdd, Nat.reduceLeDiff, Nat.reduceMul, k0, k5, qb]
    rotate_left
    · have hl := sl_ints (H := H4) [-1, 1, 100001] (by simp)
      have pn := List.prefix_append H4 [[(-1 : Int), 1, 100001].map (Value.int .i64)]
      have cn := c4.trans (CX.ofPre c4.1 pn)
      have sn := s4.pre pn
      (try simp only [go_sem, ↓reduceIte, Nat.reduceEqDiff, reduceCtorEq, Nat.reduceAdd, Nat.reduceLeDiff, Nat.reduceMul, k0, k5, fillL, zeros_3])
      refine callD (f52 cn.1 hw hl (by simp) (by simp [idsOf]; omega)) rfl fun r H5 ⟨y, _, e, cs5⟩ => ?_
      subst e
      have c5 := cn.trans cs5.cx
      have s5 := sn.cs hid cs5
      obtain ⟨id1, p1, o1, ho1, hp1, hn1, hR1, hia1, hput⟩ := s5.put1 hk L[k].1.1 y
      have hsp : spl o1 (p1 + 2) [Value.int .i64 y] = _ := spl_one (x := Value.int .i64 y) hR1 (j := 2) (by omega) hp1
      have w1 := hw0 id1 hn1
      have hp1' : p1 + 2 + 1 ≤ o1.length := by omega
      simp only [go_sem, ↓reduceIte, Nat.reduceEqDiff, reduceCtorEq, Nat.reduceAdd, Nat.reduceLeDiff, Nat.reduceMul, k0, k5]
      rw [hia1]
      rotate_left
      · rfl
      · rfl
      simp only [go_sem, ↓reduceIte, Nat.reduceEqDiff, reduceCtorEq, Nat.reduceAdd, Nat.reduceLeDiff, Nat.reduceMul, k0, k5, ho1, w1, hp1']
      rw [hsp]
      exact ⟨_, hput, c5.set hid hn1⟩
    cases qc : decide (z = 2) <;> simp only [go_sem, ↓reduceIte, Nat.reduceEqDiff, reduceCtorEq, Nat.reduceAdd, Nat.reduceLeDiff, Nat.reduceMul, k0, k5, qc]
    · refine callD (f51 c4.1 hw) rfl fun r H5 ⟨y, e, y0, y1, _, cs5⟩ => ?_
      subst e
      have y1 := y1 (by omega)
      have wy := wrap64 (20 + y) (by omega) (by omega)
      have c5 := c4.trans cs5.cx
      have s5 := s4.cs hid cs5
      simp only [go_sem, ↓reduceIte, Nat.reduceEqDiff, reduceCtorEq, Nat.reduceAdd, Nat.reduceLeDiff, Nat.reduceMul, k0, k5, wy]
      refine go_for 40 (fun i t => t.ρ 0 = .val (.pointer (some ⟨id, 0, some 3⟩)) ∧ t.ρ 10 = .val (.int .i64 (20 + y)) ∧ CX H t.H (.pointer (some ⟨id, 0, some 3⟩)) id ∧ ∃ wv L, t.ρ 5 = .val wv ∧ RL H.length t.H wv L ∧ i ≤ L.length ∧ L.length ≤ 30)
        (fun t => CX H t.H (.pointer (some ⟨id, 0, some 3⟩)) id ∧ ∃ wv L, t.ρ 5 = .val wv ∧ RL H.length t.H wv L) ?_ ?_ ?_
      · exact ⟨by simp [upd, k0], by simp [upd], c5, wv, L, by simp [upd, k5], s5, by omega, by omega⟩
      · clear k0 k5
        rintro i t hi ⟨t0, t10, tc, tv, T, t5, sT, lT, lT2⟩
        have nt := tc.2.2
        simp only [go_sem, ↓reduceIte, Nat.reduceEqDiff, reduceCtorEq, Nat.reduceAdd, Nat.reduceLeDiff, Nat.reduceMul, t0, t5, t10, sT.sl.len]
        cases q7 : decide ((T.length : Int) < 20 + y) <;> simp only [go_sem, ↓reduceIte, Nat.reduceEqDiff, reduceCtorEq, Nat.reduceAdd, Nat.reduceLeDiff, Nat.reduceMul, t0, t5, t10, q7]
        · exact ⟨tc, tv, T, rfl, sT⟩
        have hT := of_decide_eq_true q7
        obtain ⟨v', H7, a1, a2, a3, a4, a5, a6⟩ := sT.push (m := m) (w := .slice none 0 0) (a := (4, [], 0)) nt (.inl ⟨rfl, rfl⟩) (by simp [idsOf]) (fun i hi => hw0 i hi) hnr (by omega)
        (try simp only [go_sem, ↓reduceIte, Nat.reduceEqDiff, reduceCtorEq, Nat.reduceAdd, Nat.reduceLeDiff, Nat.reduceMul, t0, t5, t10, buildK, exps, fillL, zeros_3])
        rw [a1]
        rotate_left
        · rfl
        · rfl
        · rfl
        simp only [go_sem, ↓reduceIte, Nat.reduceEqDiff, reduceCtorEq, Nat.reduceAdd, Nat.reduceLeDiff, Nat.reduceMul, t0, t5, t10]
        exact ⟨by omega, tc.own hid (fun j hj => a3 j (by omega) (own_notin sT.own hj)) a4, v', _, rfl, a2, by simp; omega, by simp; omega⟩
      · rintro t ⟨tc, tv, T, t5, sT⟩
        simp only [go_sem, ↓reduceIte, Nat.reduceEqDiff, reduceCtorEq, Nat.reduceAdd, Nat.reduceLeDiff, Nat.reduceMul, t5]
        exact ⟨T, sT, tc⟩
    · have hpt := s4.part _ (List.getElem_mem hk)
      have hox := oL _ (List.getElem_mem hk)
      obtain ⟨id1, p1, o1, ho1, hp1, hn1, hR1, hia1, _⟩ := s4.put1 hk 0 0
      have g1 : o1[p1 + 1]? = some L[k].2 := by simpa using getElem?_of_take hR1 (j := 1) (by omega)
      have hid1 := (List.getElem?_eq_some_iff.1 ho1).1
      have dl : decide (H.length ≤ id1) = true := decide_eq_true hn1
      have dh : decide (id1 < H4.length) = true := decide_eq_true hid1
      have dc : decide (id < H.length) = true := decide_eq_true hid
      have hl := sl_ints (H := H4) [2, 30, 31] (by simp)
      have pn := List.prefix_append H4 [[(2 : Int), 30, 31].map (Value.int .i64)]
      have cn := c4.trans (CX.ofPre c4.1 pn)
      have sn := s4.pre pn
      refine go_draw3 H.length H4.length ?_
      simp only [go_sem, ↓reduceIte, Nat.reduceEqDiff, reduceCtorEq, Nat.reduceAdd, Nat.reduceLeDiff, Nat.reduceMul, go_w, go_w0, box3, Option.isSome_some, Nat.le_refl, k0, k5]
      rw [hia1]
      rotate_left
      · rfl
      · rfl
      simp only [go_sem, ↓reduceIte, Nat.reduceEqDiff, reduceCtorEq, Nat.reduceAdd, Nat.reduceLeDiff, Nat.reduceMul, go_w, go_w0, box3, Option.isSome_some, Nat.le_refl, k0, k5, ho1, g1, dl, dh, dc, Option.map_some, List.flatMap_cons, List.flatMap_nil, idsOf, List.all_cons, List.all_nil, Bool.true_or, Bool.or_true, fillL, zeros_3, List.length_append, Nat.le_add_right]
      refine callT_arg (by rfl) (fun m' h1 h2 h3 => f52 (l := [2, 30, 31]) cn.1 (h2 id (by simp [idsOf]) hw) hl (by simp) (by simp [idsOf]; omega)) rfl (fun i hi => hw0 i (by have := cn.2.2; omega)) fun r H5 ⟨y, _, e, cs5⟩ => ?_
      subst e
      have c5 := cn.trans cs5.cx
      have n5 := c5.2.2
      have s5 := sn.cs hid cs5
      have hp5 := s5.part _ (List.getElem_mem hk)
      obtain ⟨w', H6, a1, a2, a3, a4, a5, a6, a7⟩ := hp5.oneI (m := m) y hox.1 n5 hw0 (by omega)
      obtain ⟨id2, p2, o2, ho2, hn2, hp2, hR2, hia2, hput⟩ := s5.put2 (a' := (L[k].1.1, L[k].1.2.1 ++ [y], L[k].1.2.2)) nL hk n5 a4 a2 a6
      have hsp : spl o2 (p2 + 1) [w'] = _ := spl_one (x := w') hR2 (j := 1) (by omega) hp2
      have wid2 := hw0 id2 hn2
      have hp3 : p2 + 1 + 1 ≤ o2.length := by omega
      simp only [go_sem, ↓reduceIte, Nat.reduceEqDiff, reduceCtorEq, Nat.reduceAdd, Nat.reduceLeDiff, Nat.reduceMul, go_w, go_w0, box3, Option.isSome_some, Nat.le_refl, k0, k5]
      rw [a1]
      rotate_left
      · rfl
      · rfl
      · rfl
      simp only [go_sem, ↓reduceIte, Nat.reduceEqDiff, reduceCtorEq, Nat.reduceAdd, Nat.reduceLeDiff, Nat.reduceMul, go_w, go_w0, box3, Option.isSome_some, Nat.le_refl, k0, k5]
      rw [hia2]
      rotate_left
      · rfl
      · rfl
      simp only [go_sem, ↓reduceIte, Nat.reduceEqDiff, reduceCtorEq, Nat.reduceAdd, Nat.reduceLeDiff, Nat.reduceMul, go_w, go_w0, box3, Option.isSome_some, Nat.le_refl, k0, k5, ho2, wid2, hnr, a2.vc, hp3, Bool.false_eq_true, false_implies]
      rw [hsp]
      refine ⟨by generalize (decide (H4.length ≤ H5.length) && (Option.map (fun v => (idsOf v).all fun id => decide (id < H.length) || decide (H4.length ≤ id)) (some L[k].2) == some true)) = b0; cases b0 <;> rfl, _, hput, ?_⟩
      exact (c5.own hid (fun j hj => a4 j (by omega) (own_notin hox.1 hj)) a5).set hid hn2
end Go.Proofs.Ytceilcdhflcbpaa.Ev

/- Rules and questions drawn. -/
namespace Go.Proofs.Ytceilcdhflcbpaa.Ev
set_option linter.all false
open Go
set_option maxRecDepth 4000

theorem f28 {m : Md} {H : Hp} {v : Value} {cl : List Int} (hv : SlU H v cl) (hw : Wr m H) (hnr : m.nr = false) : Fun EE m 28 [v] H fun r H' => ∃ u1 u2 a b, r = .tuple #[u1, u2] ∧ H <+: H' ∧ SlR H' u1 a ∧ SlR H' u2 b := by
  refine fun_f rfl rfl k28 (by simp [c28]) ?_
  have wid := hw H.length (Nat.le_refl _)
  simp only [go_sem, ↓reduceIte, Nat.reduceEqDiff, reduceCtorEq, Nat.reduceAdd, Nat.reduceLeDiff, Nat.reduceMul, c28]
  refine callD (f50 hv) rfl fun r H1 ⟨c1, p1, n1⟩ => ?_
  have p1 : H <+: H1 := p1
  have n1 : H1.length = H.length + 1 := n1
  have hlt := c1.lt
  simp only [go_sem, ↓reduceIte, Nat.reduceEqDiff, reduceCtorEq, Nat.reduceAdd, Nat.reduceLeDiff, Nat.reduceMul]
  refine callD (f55 c1 (fun i hi => hw i (by have : H1.length ≤ i := hi; omega)) wid hnr (by omega) (by omega)) rfl fun u1 H2 ⟨L1, s1, c2⟩ => ?_
  have s1 : RL H1.length H2 u1 L1 := s1
  have n2 : H1.length ≤ H2.length := c2.2.2
  simp only [go_sem, ↓reduceIte, Nat.reduceEqDiff, reduceCtorEq, Nat.reduceAdd, Nat.reduceLeDiff, Nat.reduceMul]
  refine callD (f55 c2.1 (fun i hi => hw i (by have : H2.length ≤ i := hi; omega)) wid hnr (by omega) (by omega)) rfl fun u2 H3 ⟨L2, s2, c3⟩ => ?_
  have s2 : RL H2.length H3 u2 L2 := s2
  have s1' := s1.cx hlt c3
  (try simp only [go_sem, ↓reduceIte, Nat.reduceEqDiff, reduceCtorEq, Nat.reduceAdd, Nat.reduceLeDiff, Nat.reduceMul, s1'.sl.vc, s2.sl.vc])
  exact ⟨u1, u2, _, _, rfl, (c2.trans c3).pre p1 (Nat.le_refl _), s1'.r, s2.r⟩
theorem f31 {m : Md} {H : Hp} {v : Value} {cl : List Int} (hv : SlU H v cl) (hw : Wr m H) (hnr : m.nr = false) : Fun EE m 31 [v] H fun r H' => ∃ u1 u2 a b, r = .tuple #[u1, u2] ∧ H <+: H' ∧ SlR H' u1 a ∧ SlR H' u2 b := by
  refine fun_f rfl rfl k31 (by simp [c31]) ?_
  have wid := hw H.length (Nat.le_refl _)
  simp only [go_sem, ↓reduceIte, Nat.reduceEqDiff, reduceCtorEq, Nat.reduceAdd, Nat.reduceLeDiff, Nat.reduceMul, c31]
  refine callD (f50 hv) rfl fun r H1 ⟨c1, p1, n1⟩ => ?_
  have p1 : H <+: H1 := p1
  have n1 : H1.length = H.length + 1 := n1
  have hlt := c1.lt
  simp only [go_sem, ↓reduceIte, Nat.reduceEqDiff, reduceCtorEq, Nat.reduceAdd, Nat.reduceLeDiff, Nat.reduceMul]
  refine callD (f55 c1 (fun i hi => hw i (by have : H1.length ≤ i := hi; omega)) wid hnr (by omega) (by omega)) rfl fun u1 H2 ⟨L1, s1, c2⟩ => ?_
  have s1 : RL H1.length H2 u1 L1 := s1
  have n2 : H1.length ≤ H2.length := c2.2.2
  simp only [go_sem, ↓reduceIte, Nat.reduceEqDiff, reduceCtorEq, Nat.reduceAdd, Nat.reduceLeDiff, Nat.reduceMul]
  refine callD (f58 c2.1 wid) rfl fun r H3 ⟨b, e, cs3⟩ => ?_
  subst e
  have n3 : H3.length = H2.length := cs3.2.2
  have c3 := c2.trans cs3.cx
  have s1' := s1.cx hlt cs3.cx
  have w3 : Wr m H3 := fun i hi => hw i (by have : H3.length ≤ i := hi; omega)
  cases b with
  | true =>
    simp only [go_sem, ↓reduceIte, Nat.reduceEqDiff, reduceCtorEq, Nat.reduceAdd, Nat.reduceLeDiff, Nat.reduceMul]
    refine callD (f55 c3.1 w3 wid hnr (by omega) (by omega)) rfl fun u2 H4 ⟨L2, s2, c4⟩ => ?_
    have s2 : RL H3.length H4 u2 L2 := s2
    have n4 : H3.length ≤ H4.length := c4.2.2
    have s1'' := s1'.cx hlt c4
    have pH := (c3.trans c4).pre p1 (Nat.le_refl _)
    simp only [go_sem, ↓reduceIte, Nat.reduceEqDiff, reduceCtorEq, Nat.reduceAdd, Nat.reduceLeDiff, Nat.reduceMul]
    refine callD (f59 s1''.r s2.r (fun i hi => hw i (by have : H4.length ≤ i := hi; omega)) hnr) rfl fun u3 H5 ⟨p5, L3, s3, _⟩ => ?_
    have p5 : H4 <+: H5 := p5
    have s1f := s1''.r.pre p5
    (try simp only [go_sem, ↓reduceIte, Nat.reduceEqDiff, reduceCtorEq, Nat.reduceAdd, Nat.reduceLeDiff, Nat.reduceMul, s1f.vc, s3.sl.vc])
    exact ⟨u3, u1, _, _, rfl, pH.trans p5, s3.r, s1f⟩
  | false =>
    simp only [go_sem, ↓reduceIte, Nat.reduceEqDiff, reduceCtorEq, Nat.reduceAdd, Nat.reduceLeDiff, Nat.reduceMul]
    refine callD (f55 c3.1 w3 wid hnr (by omega) (by omega)) rfl fun u2 H4 ⟨L2, s2, c4⟩ => ?_
    have s2 : RL H3.length H4 u2 L2 := s2
    have s1'' := s1'.cx hlt c4
    (try simp only [go_sem, ↓reduceIte, Nat.reduceEqDiff, reduceCtorEq, Nat.reduceAdd, Nat.reduceLeDiff, Nat.reduceMul, s1''.sl.vc, s2.sl.vc])
    exact ⟨u1, u2, _, _, rfl, (c3.trans c4).pre p1 (Nat.le_refl _), s1''.r, s2.r⟩
def AkD (H : Hp) (c : Value) (id : Nat) (r : Value) (H' : Hp) : Prop := ∃ x g, r = vAk x g ∧ SlI H' g x.2.2.1 ∧ OwnS H.length g ∧ CX H H' c id ∧ 0 ≤ x.2.2.2.2
theorem f70 {m : Md} {H : Hp} {c : Value} {id : Nat} (hc : Cur H c id) (hw0 : Wr m H) (hw : m.wr id = true) : Fun EE m 70 [c] H fun r H' => AkD H c id r H' := by
  refine fun_f rfl rfl k70 (by simp [c70]) ?_
  have hid := hc.lt
  simp only [go_sem, ↓reduceIte, Nat.reduceEqDiff, reduceCtorEq, Nat.reduceAdd, Nat.reduceLeDiff, Nat.reduceMul, c70]
  refine callD (f51 hc hw) rfl fun r H1 ⟨a, e, _, _, _, cs1⟩ => ?_
  subst e
  simp only [go_sem, ↓reduceIte, Nat.reduceEqDiff, reduceCtorEq, Nat.reduceAdd, Nat.reduceLeDiff, Nat.reduceMul]
  refine callD (f51 cs1.1 hw) rfl fun r H2 ⟨b, e, _, _, _, cs2⟩ => ?_
  subst e
  have c2 := cs1.trans cs2
  simp only [go_sem, ↓reduceIte, Nat.reduceEqDiff, reduceCtorEq, Nat.reduceAdd, Nat.reduceLeDiff, Nat.reduceMul]
  refine callD (f51 c2.1 hw) rfl fun r H3 ⟨d, e, _, _, _, cs3⟩ => ?_
  subst e
  have c3 := c2.trans cs3
  simp only [go_sem, ↓reduceIte, Nat.reduceEqDiff, reduceCtorEq, Nat.reduceAdd, Nat.reduceLeDiff, Nat.reduceMul]
  refine callD (f51 c3.1 hw) rfl fun r H4 ⟨us, e, us0, _, _, cs4⟩ => ?_
  subst e
  have c4 := (c3.trans cs4).cx
  simp only [go_sem, ↓reduceIte, Nat.reduceEqDiff, reduceCtorEq, Nat.reduceAdd, Nat.reduceLeDiff, Nat.reduceMul, exps, buildK, fillL]
  refine go_for 5 (fun i t => t.ρ 0 = .val c ∧ t.ρ 4 = .val (.int .i64 i) ∧ CX H t.H c id ∧ (∃ g cs, t.ρ 2 = .bx g cs ∧ cs.length = 5) ∧ ∃ g w p, t.ρ 3 = .bx g [.int .i64 a, .int .i64 b, w, .int .i64 d, .int .i64 us] ∧ SlI t.H w p ∧ OwnS H.length w ∧ p.length ≤ i)
    (fun t => CX H t.H c id ∧ (∃ g cs, t.ρ 2 = .bx g cs ∧ cs.length = 5) ∧ ∃ g w p, t.ρ 3 = .bx g [.int .i64 a, .int .i64 b, w, .int .i64 d, .int .i64 us] ∧ SlI t.H w p ∧ OwnS H.length w) ?_ ?_ ?_
  · exact ⟨by simp [upd, ini], by simp [upd], c4, ⟨_, _, by simp [upd, ini]; exact ⟨rfl, rfl⟩, rfl⟩, _, _, [], by simp [upd]; rfl, .inl ⟨rfl, rfl⟩, .inl rfl, by simp⟩
  · rintro i t hi ⟨t0, t4, tc, ⟨g2, cs2', t2, tl2⟩, g, w, p, t3, sw, ow, lp⟩
    simp only [go_sem, ↓reduceIte, Nat.reduceEqDiff, reduceCtorEq, Nat.reduceAdd, Nat.reduceLeDiff, Nat.reduceMul, t0, t2, t3, t4]
    cases d1 : decide ((i : Int) < 5) <;> simp only [go_sem, ↓reduceIte, Nat.reduceEqDiff, reduceCtorEq, Nat.reduceAdd, Nat.reduceLeDiff, Nat.reduceMul, t0, t2, t3, t4, d1]
    · exact ⟨tc, ⟨_, _, rfl, tl2⟩, _, w, p, rfl, sw, ow⟩
    have hi5 : i < 5 := by have := of_decide_eq_true d1; omega
    have wi := wrap64 ((i : Int) + 1) (by omega) (by omega)
    refine callD (f58 tc.1 hw) rfl fun r H5 ⟨b', e, cs5⟩ => ?_
    subst e
    have c5 := tc.trans cs5.cx
    have s5 := sw.cs cs5 (own_notin ow hid)
    cases b' with
    | true =>
      simp only [go_sem, ↓reduceIte, Nat.reduceEqDiff, reduceCtorEq, Nat.reduceAdd, Nat.reduceLeDiff, Nat.reduceMul, t0, t2, t3, t4, wi]
      exact ⟨hi5, by simp, c5, ⟨_, _, rfl, tl2⟩, _, w, p, rfl, s5, ow, by omega⟩
    | false =>
      obtain ⟨w', H6, a1, a2, a3, a4, a5, a6, a7⟩ := s5.oneI (m := m) (i : Int) ow c5.2.2 hw0 (by omega)
      simp only [go_sem, ↓reduceIte, Nat.reduceEqDiff, reduceCtorEq, Nat.reduceAdd, Nat.reduceLeDiff, Nat.reduceMul, t0, t2, t3, t4]
      rw [a1]
      rotate_left
      · rfl
      · rfl
      · rfl
      simp only [go_sem, ↓reduceIte, Nat.reduceEqDiff, reduceCtorEq, Nat.reduceAdd, Nat.reduceLeDiff, Nat.reduceMul, t0, t2, t3, t4, wi, a2.vc]
      exact ⟨hi5, by simp, c5.own hid (fun j hj => a4 j (by have := c5.2.2; omega) (own_notin ow hj)) a5, ⟨_, _, rfl, tl2⟩, _, w', _, rfl, a2, a3, by simp; omega⟩
  · rintro t ⟨tc, ⟨g2, cs2', t2, tl2⟩, g, w, p, t3, sw, ow⟩
    obtain ⟨z0, z1, z2, z3, z4, rfl⟩ : ∃ a b c d e, cs2' = [a, b, c, d, e] := by
      match cs2', tl2 with
      | [a, b, c, d, e], _ => exact ⟨a, b, c, d, e, rfl⟩
    simp only [go_sem, ↓reduceIte, Nat.reduceEqDiff, reduceCtorEq, Nat.reduceAdd, Nat.reduceLeDiff, Nat.reduceMul, t2, t3]
    exact ⟨(a, b, p, d, us), w, rfl, sw, ow, tc, us0⟩
theorem f36 {m : Md} {H : Hp} {v : Value} {cl : List Int} (hv : SlU H v cl) (hw : Wr m H) (hnr : m.nr = false) : Fun EE m 36 [v] H fun r H' => ∃ u x g, r = .tuple #[u, vAk x g] ∧ H <+: H' ∧ SlI H' g x.2.2.1 ∧ 0 ≤ x.2.2.2.2 ∧ vc u = some [u] := by
  refine fun_f rfl rfl k36 (by simp [c36]) ?_
  have wid := hw H.length (Nat.le_refl _)
  simp only [go_sem, ↓reduceIte, Nat.reduceEqDiff, reduceCtorEq, Nat.reduceAdd, Nat.reduceLeDiff, Nat.reduceMul, c36]
  refine callD (f50 hv) rfl fun r H1 ⟨c1, p1, n1⟩ => ?_
  have p1 : H <+: H1 := p1
  have n1 : H1.length = H.length + 1 := n1
  have hlt := c1.lt
  have hcp := c1.1
  subst hcp
  simp only [go_sem, ↓reduceIte, Nat.reduceEqDiff, reduceCtorEq, Nat.reduceAdd, Nat.reduceLeDiff, Nat.reduceMul]
  refine callD (f70 c1 (fun i hi => hw i (by have : H1.length ≤ i := hi; omega)) wid) rfl fun r H2 ⟨x, g, e, sg, og, c2, hx⟩ => ?_
  subst e
  have n2 : H1.length ≤ H2.length := c2.2.2
  have og : OwnS H1.length g := og
  unfold vAk
  simp only [go_sem, ↓reduceIte, Nat.reduceEqDiff, reduceCtorEq, Nat.reduceAdd, Nat.reduceLeDiff, Nat.reduceMul, exps, fillL]
  refine go_draw ?_
  simp only [go_sem, ↓reduceIte, Nat.reduceEqDiff, reduceCtorEq, Nat.reduceAdd, Nat.reduceLeDiff, Nat.reduceMul]
  refine callT_arg (by rfl) (fun m2 h1 h2 h3 => f55 c2.1 h1 (h2 _ (by simp [idsOf]) wid) (h3.trans hnr) (by omega) (by omega)) rfl (fun i hi => hw i (by omega)) fun u H5 ⟨L, s5, c5⟩ => ?_
  have sg5 := sg.cx c5 (own_notin og hlt)
  simp only [go_sem, ↓reduceIte, Nat.reduceEqDiff, reduceCtorEq, Nat.reduceAdd, Nat.reduceLeDiff, Nat.reduceMul, s5.sl.vc]
  exact ⟨by rfl, u, x, g, rfl, (c2.trans c5).pre p1 (Nat.le_refl _), sg5, hx, s5.sl.vc⟩
end Go.Proofs.Ytceilcdhflcbpaa.Ev

/- Rules: what the law asks, plain. -/
namespace Go.Proofs.Ytceilcdhflcbpaa.Ev
set_option linter.all false
open Go
set_option maxRecDepth 4000

theorem kind_app {l : List Ru} {a : Ru} {k : Int} : kindR (l ++ [a]) k = stepS k (kindR l k) a := by unfold kindR; rw [List.foldl_append]; rfl
theorem norm_ok {l : List Ru} (hall : ∀ a ∈ l, rOk a = true) : rulesOk (normT l 5) = true := rules_t.2 ⟨by have := normT_len l 5; omega, fun r hr => by
  obtain ⟨j, _, h⟩ := norm_mem.1 hr
  exact (kind_all hall h).1⟩
theorem kind_norm {l : List Ru} (hall : ∀ a ∈ l, rOk a = true) : ∀ (n : Nat) (k : Int), kindR (normT l n) k = if 1 ≤ k ∧ k ≤ (n : Int) then kindR l k else none
  | 0, k => by
    rw [if_neg (by omega)]
    rfl
  | n + 1, k => by
    have ih := kind_norm hall n
    cases q : kindR l ((n + 1 : Nat) : Int) with
    | none =>
      rw [normT_none q, ih]
      by_cases e : k = ((n + 1 : Nat) : Int)
      · subst e
        rw [if_neg (by omega), if_pos (by omega), q]
      · by_cases h : 1 ≤ k ∧ k ≤ (n : Int)
        · rw [if_pos h, if_pos (by omega)]
        · rw [if_neg h, if_neg (by omega)]
    | some r =>
      rw [normT_some q, kind_app, ih]
      have hr := (kind_all hall q).2
      by_cases e : k = ((n + 1 : Nat) : Int)
      · subst e
        rw [if_neg (by omega), if_pos (by omega), q]
        unfold stepS
        rw [if_pos hr, ← hr]
      · unfold stepS
        rw [if_neg (by omega)]
        by_cases h : 1 ≤ k ∧ k ≤ (n : Int)
        · rw [if_pos h, if_pos (by omega)]
        · rw [if_neg h, if_neg (by omega)]
theorem kind_n5 {l : List Ru} (hall : ∀ a ∈ l, rOk a = true) (k : Int) : kindR (normT l 5) k = kindR l k := by
  rw [kind_norm hall]
  split
  · rfl
  · rename_i h
    cases q : kindR l k with
    | none => rfl
    | some r =>
      obtain ⟨h1, h2⟩ := kind_all hall q
      have := rOk_kind h1
      exact absurd ⟨by omega, by omega⟩ h
theorem normT_ext {a b : List Ru} (h : ∀ k, kindR a k = kindR b k) : ∀ n, normT a n = normT b n
  | 0 => rfl
  | n + 1 => by rw [normT, normT, h, normT_ext h n]
theorem norm_idem {l : List Ru} (hall : ∀ a ∈ l, rOk a = true) : normT (normT l 5) 5 = normT l 5 := normT_ext (kind_n5 hall) 5
theorem sub_t {l k : List Int} : subI l k = true ↔ ∀ x ∈ l, x ∈ k := by unfold subI; simp
theorem meet_allow {r a : Ru} {x : Ak} (h1 : rOk r = true) (h2 : rOk a = true) (he : a.1 = r.1) : oneR (meetS r a) x = true ↔ oneR r x = true ∧ oneR a x = true := by
  obtain ⟨g1, g2⟩ := rOk_kind h1
  by_cases h4 : 4 ≤ r.1
  · have em : meetS r a = (r.1, [], lsI r.2.2 a.2.2) := by unfold meetS; rw [if_pos h4]
    rw [em]
    unfold oneR
    rw [he]
    simp only [if_neg (show ¬ r.1 = 1 by omega), if_neg (show ¬ r.1 = 2 by omega), if_neg (show ¬ r.1 = 3 by omega)]
    unfold lsI
    split
    · simp only [decide_eq_true_eq]; split <;> omega
    · simp only [decide_eq_true_eq]; split <;> omega
  · obtain ⟨e1, s1⟩ := (rOk_low g1 (by omega)).1 h1
    obtain ⟨e2, s2⟩ := (rOk_low (he ▸ g1) (by omega)).1 h2
    have em : meetS r a = (r.1, rowM r.1 r.2.1 a.2.1 31, 0) := by unfold meetS; rw [if_neg h4]
    rw [em]
    unfold oneR
    rw [he]
    by_cases k1 : r.1 = 1
    · simp only [if_pos k1, decide_eq_true_eq, meet_in s1 s2]
      constructor
      · rintro (h | h)
        · exact h
        · omega
      · exact fun h => .inl h
    · by_cases k2 : r.1 = 2
      · simp only [if_neg k1, if_pos k2, decide_eq_true_eq, meet_in s1 s2]
        constructor
        · rintro (h | h)
          · exact h
          · omega
        · exact fun h => .inl h
      · have k3 : r.1 = 3 := by omega
        simp only [if_neg k1, if_neg k2, if_pos k3, sub_t]
        constructor
        · exact fun h => ⟨fun y hy => h y ((meet_in s1 s2).2 (.inr ⟨k3, .inl hy⟩)), fun y hy => h y ((meet_in s1 s2).2 (.inr ⟨k3, .inr hy⟩))⟩
        · rintro ⟨ha, hb⟩ y hy
          rcases (meet_in s1 s2).1 hy with h | ⟨_, h | h⟩
          · exact ha y h.1
          · exact ha y h
          · exact hb y h
def optA (o : Option Ru) (x : Ak) : Prop := ∀ r, o = some r → oneR r x = true
theorem kind_allow {l : List Ru} {k : Int} {x : Ak} (hall : ∀ a ∈ l, rOk a = true) : ∀ i, i ≤ l.length → ((∀ a ∈ l.take i, a.1 = k → oneR a x = true) ↔ optA (kindR (l.take i) k) x)
  | 0, _ => by simp [kindR, optA]
  | i + 1, hi => by
    have hil : i < l.length := by omega
    have ih := kind_allow (k := k) (x := x) hall i (by omega)
    have ha := hall _ (List.getElem_mem hil)
    have hlast : (∀ a ∈ l.take (i + 1), a.1 = k → oneR a x = true) ↔ (∀ a ∈ l.take i, a.1 = k → oneR a x = true) ∧ (l[i].1 = k → oneR l[i] x = true) := by
      rw [List.take_succ_eq_append_getElem hil]
      constructor
      · exact fun h => ⟨fun a ha => h a (List.mem_append_left _ ha), fun e => h _ (List.mem_append_right _ (by simp)) e⟩
      · rintro ⟨h1, h2⟩ a ham
        rcases List.mem_append.1 ham with h | h
        · exact h1 a h
        · rw [List.mem_singleton] at h; subst h; exact h2
    rw [hlast, ih, kind_succ hil]
    unfold stepS
    by_cases e : l[i].1 = k
    · rw [if_pos e]
      cases q : kindR (l.take i) k with
      | none =>
        have e3 : (k, l[i].2.1, l[i].2.2) = l[i] := by rw [← e]
        simp only [e3]
        constructor
        · rintro ⟨_, h⟩ r hr; cases hr; exact h e
        · exact fun h => ⟨fun r hr => (by cases hr), fun _ => h _ rfl⟩
      | some r0 =>
        obtain ⟨hr, hk⟩ := kind_ok hall i (by omega) r0 q
        have hm := meet_allow (x := x) hr ha (by omega)
        constructor
        · rintro ⟨h1, h2⟩ r hrr; cases hrr; exact hm.2 ⟨h1 _ rfl, h2 e⟩
        · intro h
          have := hm.1 (h _ rfl)
          exact ⟨fun r hrr => by cases hrr; exact this.1, fun _ => this.2⟩
    · rw [if_neg e]
      exact ⟨fun h => h.1, fun h => ⟨h, fun h2 => absurd h2 e⟩⟩
theorem allow_kinds {l : List Ru} {x : Ak} (hall : ∀ a ∈ l, rOk a = true) : l.all (oneR · x) = true ↔ ∀ k, optA (kindR l k) x := by
  have hk := fun k => kind_allow (k := k) (x := x) hall l.length (Nat.le_refl _)
  rw [List.take_length] at hk
  rw [List.all_eq_true]
  exact ⟨fun h k => (hk k).1 fun a ha _ => h a ha, fun h a ha => (hk a.1).2 (h a.1) a ha rfl⟩
theorem allow_norm {l : List Ru} {x : Ak} (h : rulesOk l = true) : allR (normT l 5) x = allR l x := by
  have hall := (rules_t.1 h).2
  have hn := norm_ok hall
  unfold allR
  rw [h, hn, Bool.true_and, Bool.true_and, Bool.eq_iff_iff, allow_kinds hall, allow_kinds (rules_t.1 hn).2]
  simp only [kind_n5 hall]
theorem allow_join {a b : List Ru} {x : Ak} (h1 : rulesOk a = true) (h2 : rulesOk b = true) (h3 : a.length + b.length ≤ 20) : allR (joinR a b) x = (allR a x && allR b x) := by
  have hj : joinR a b = normT (a ++ b) 5 := by unfold joinR joinB; rw [if_pos (by rw [h1, h2, decide_eq_true h3]; rfl)]
  have hok : rulesOk (a ++ b) = true := rules_t.2 ⟨by simp; omega, fun y hy => by
    rcases List.mem_append.1 hy with hy | hy
    · exact (rules_t.1 h1).2 y hy
    · exact (rules_t.1 h2).2 y hy⟩
  rw [hj, allow_norm hok]
  unfold allR
  rw [h1, h2, hok, List.all_append]
  rfl
theorem join_ok {a b : List Ru} : rulesOk (joinR a b) = true ∧ (joinR a b).length ≤ 5 := by
  unfold joinR
  split
  · rename_i h
    unfold joinB at h
    simp only [Bool.and_eq_true, decide_eq_true_eq] at h
    refine ⟨norm_ok fun y hy => ?_, normT_len _ 5⟩
    rcases List.mem_append.1 hy with hy | hy
    · exact (rules_t.1 h.1).2 y hy
    · exact (rules_t.1 h.2.1).2 y hy
  · exact ⟨rules_t.2 ⟨by simp, by simp⟩, by simp⟩
theorem normR_ok {a : List Ru} : rulesOk (normR a) = true ∧ (normR a).length ≤ 5 ∧ normR (normR a) = normR a := by
  unfold normR
  by_cases h : rulesOk a = true
  · have hn := norm_ok (rules_t.1 h).2
    rw [if_pos h, if_pos hn]
    exact ⟨hn, normT_len _ 5, norm_idem (rules_t.1 h).2⟩
  · rw [if_neg h]
    have h0 : rulesOk [] = true := rules_t.2 ⟨by simp, by simp⟩
    rw [if_pos h0]
    exact ⟨h0, by simp, rfl⟩
theorem noth_no {l : List Ru} {x : Ak} (hall : ∀ a ∈ l, rOk a = true) (h : nothR l = true) (hu : 0 ≤ x.2.2.2.2) : l.all (oneR · x) = false := by
  cases q : l.all (oneR · x) with
  | false => rfl
  | true =>
    exfalso
    have hk := (allow_kinds hall).1 q
    rw [← noth_any hall, List.any_eq_true] at h
    obtain ⟨r, hr, hn⟩ := h
    have hkr := (norm_at hall).1 hr
    have h1 := hk r.1 r hkr
    obtain ⟨g1, g2⟩ := rOk_kind (kind_all hall hkr).1
    unfold nothU at hn
    simp only [Bool.or_eq_true, Bool.and_eq_true, decide_eq_true_eq] at hn
    unfold oneR at h1
    rcases hn with ⟨a1, a2⟩ | ⟨a1, a2⟩
    · have e : r.2.1 = [] := List.eq_nil_of_length_eq_zero (by omega)
      rw [e] at h1
      by_cases k1 : r.1 = 1
      · rw [if_pos k1] at h1; simp at h1
      · rw [if_neg k1, if_pos (show r.1 = 2 by omega)] at h1; simp at h1
    · rw [if_neg (by omega), if_neg (by omega), if_neg (by omega), if_neg (by omega), a2] at h1
      have := of_decide_eq_true h1
      omega
theorem strict_allow {p q : List Ru} {x : Ak} (hs : srR p q = true) (ha : allR p x = true) (hu : 0 ≤ x.2.2.2.2) : allR q x = true := by
  unfold srR at hs
  simp only [Bool.and_eq_true, Bool.or_eq_true] at hs
  obtain ⟨hp, hq, hs⟩ := hs
  have hpp := (rules_t.1 hp).2
  have hqq := (rules_t.1 hq).2
  unfold allR at ha ⊢
  rw [hp, Bool.true_and] at ha
  rw [hq, Bool.true_and]
  rcases hs with hs | hs
  · rw [noth_no hpp hs hu] at ha; cases ha
  have hk := (allow_kinds hpp).1 ha
  rw [← sr_all hqq, List.all_eq_true] at hs
  refine (allow_kinds hqq).2 fun k y hy => ?_
  obtain ⟨yok, ek⟩ := kind_all hqq hy
  subst ek
  have h1 := hs y ((norm_at hqq).2 hy)
  have hx := hk y.1
  obtain ⟨g1, g2⟩ := rOk_kind yok
  unfold srY at h1
  split at h1
  · rename_i h2
    cases o : kindR p y.1 with
    | none => rw [o] at h1; cases h1
    | some z =>
      rw [o] at h1
      have h1 : subI z.2.1 y.2.1 = true := h1
      have ez := (kind_all hpp o).2
      have hz := hx z o
      unfold oneR at hz ⊢
      rw [ez] at hz
      by_cases k1 : y.1 = 1
      · rw [if_pos k1] at hz ⊢
        exact decide_eq_true (sub_t.1 h1 _ (of_decide_eq_true hz))
      · have k2 : y.1 = 2 := by omega
        rw [if_neg k1, if_pos k2] at hz ⊢
        exact decide_eq_true (sub_t.1 h1 _ (of_decide_eq_true hz))
  · split at h1
    · rename_i h2 k3
      have goal : subI y.2.1 x.2.2.1 = true := sub_t.2 fun n hn => by
        cases o : kindR p y.1 with
        | none => rw [o] at h1; have := sub_t.1 h1 n hn; simp [kv] at this
        | some z =>
          rw [o] at h1
          have ez := (kind_all hpp o).2
          have hz := hx z o
          unfold oneR at hz
          rw [ez, if_neg (by omega), if_neg (by omega), if_pos k3] at hz
          exact sub_t.1 hz n (sub_t.1 h1 n hn)
      unfold oneR
      rw [if_neg (by omega), if_neg (by omega), if_pos k3]
      exact goal
    · rename_i h2 k3
      cases o : kindR p y.1 with
      | none => rw [o] at h1; cases h1
      | some z =>
        rw [o] at h1
        have h1 : (!decide (z.2.2 > y.2.2)) = true := h1
        have h1 : ¬ z.2.2 > y.2.2 := by simpa using h1
        have ez := (kind_all hpp o).2
        have hz := hx z o
        unfold oneR at hz ⊢
        rw [ez] at hz
        rw [if_neg (by omega), if_neg (by omega), if_neg k3] at hz ⊢
        by_cases k4 : y.1 = 4
        · rw [if_pos k4] at hz ⊢
          exact decide_eq_true (by have := of_decide_eq_true hz; omega)
        · rw [if_neg k4] at hz ⊢
          exact decide_eq_true (by have := of_decide_eq_true hz; omega)
theorem srY_self (k : Int) (y : Ru) : srY (some y) k y = true := by
  unfold srY
  have hs : subI y.2.1 y.2.1 = true := sub_t.2 fun n hn => hn
  split
  · exact hs
  · split
    · exact hs
    · show (!decide (y.2.2 > y.2.2)) = true
      simp
theorem str_same {a b : List Ru} (h1 : rulesOk a = true) (h2 : rulesOk b = true) (h : ∀ k, kindR a k = kindR b k) : srR a b = true := by
  unfold srR
  rw [h1, h2, List.all_eq_true.2 fun n _ => ?_]
  · simp
  · unfold srK
    split
    · rfl
    · rename_i y hy
      rw [h, hy]
      exact srY_self _ _
end Go.Proofs.Ytceilcdhflcbpaa.Ev
