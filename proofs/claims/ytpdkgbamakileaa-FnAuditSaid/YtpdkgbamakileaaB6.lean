/- Texts of this proof, laid one behind the other: what each shows stands at its head. -/
import Derived.Test.YtpdkgbamakileaaB5
import Derived.Test.YtpdkgbamakileaaB3
/- Reading sealed lines: plain. -/
namespace Go.Proofs.Ytpdkgbamakileaa.Ev
set_option linter.all false
open Go
set_option maxRecDepth 4000

/-- The places between a list's parts, and the parts. -/
noncomputable def posN (s : ByteArray) (e0 j : Nat) : Nat := (itr (tmE s 8) j e0).getD 0
noncomputable def segL (s : ByteArray) (e0 n : Nat) : List ByteArray := (List.range n).map fun j => s.extract (posN s e0 j) (posN s e0 (j + 1))
theorem segL_len (s : ByteArray) (e0 n : Nat) : (segL s e0 n).length = n := by simp [segL]
theorem segL_succ (s : ByteArray) (e0 n : Nat) : segL s e0 (n + 1) = segL s e0 n ++ [s.extract (posN s e0 n) (posN s e0 (n + 1))] := by simp [segL, List.range_succ]

open Classical in
noncomputable def partsB (s : ByteArray) : Option (List ByteArray) := if tOk s = true ∧ s[0]? = some 108 then some (segL s (1 + (rdV (rest s 1)).2) (rdV (rest s 1)).1) else none
open Classical in
noncomputable def openB (s : ByteArray) (k : Int) : Option ByteArray := if tOk s = true ∧ s[0]? = some 115 ∧ ((rdV (rest s 1)).1 : Int) = k then some (rest s (1 + (rdV (rest s 1)).2)) else none
open Classical in
noncomputable def atomR (s : ByteArray) : Option ByteArray := if tOk s = true ∧ s[0]? = some 97 then some (rest s (1 + (rdV (rest s 1)).2)) else none
noncomputable def numR (s : ByteArray) : Option Int := match atomR s with
  | some d => if (rdV d).2 = 0 ∨ (rdV d).2 ≠ d.size then none else some ((rdV d).1 : Int)
  | none => none

/-- A term's head has its number. -/
theorem tOk_head {s : ByteArray} (h : tOk s = true) : ¬ (rdV (rest s 1)).2 = 0 ∧ ∃ c, s[0]? = some c := by
  have h8 := (tOk_t.1 h).2.2
  rw [show (8 : Nat) = 7 + 1 from rfl, tmE, tmStep] at h8
  cases hc : s[0]? with
  | none => rw [hc] at h8; cases h8
  | some c =>
    rw [hc] at h8
    simp only at h8
    refine ⟨fun e => ?_, c, rfl⟩
    rw [show (0 : Nat) + 1 = 1 from rfl, if_pos e] at h8
    cases h8
theorem tOk_list {s : ByteArray} (h : tOk s = true) (hc : s[0]? = some 108) : (rdV (rest s 1)).1 ≤ 12 ∧ itr (tmE s 7) (rdV (rest s 1)).1 (1 + (rdV (rest s 1)).2) = some s.size := by
  have h8 := (tOk_t.1 h).2.2
  have hk := (tOk_head h).1
  rw [show (8 : Nat) = 7 + 1 from rfl, tmE, tmStep, hc] at h8
  simp only [Nat.zero_add] at h8
  rw [if_neg hk, if_neg (by decide), if_neg (by decide), if_pos trivial] at h8
  split at h8
  · rename_i h2; exact ⟨h2, h8⟩
  · cases h8
/-- .. so all its parts stand. -/
theorem pos_some {s : ByteArray} (h : tOk s = true) (hc : s[0]? = some 108) : ∀ j, j ≤ (rdV (rest s 1)).1 → ∃ e, itr (tmE s 8) j (1 + (rdV (rest s 1)).2) = some e ∧ e ≤ s.size := by
  intro j hj
  obtain ⟨h12, h7⟩ := tOk_list h hc
  cases hit : itr (tmE s 7) j (1 + (rdV (rest s 1)).2) with
  | none => rw [itr_none hj hit] at h7; cases h7
  | some e =>
    have := itr_fmono (g := tmE s 8) (fun a e h => tm_mono h) hit
    have hr := rdV_le (rest s 1)
    rw [rest_size] at hr
    have h1 := (tOk_t.1 h).1
    exact ⟨e, this, (itr_le (s := s) (f := tmE s 8) (fun a e h => tmE_le h) (by omega) this).2⟩
theorem pos_next {s : ByteArray} {e0 j e e' : Nat} (h : itr (tmE s 8) j e0 = some e) (h2 : itr (tmE s 8) (j + 1) e0 = some e') : tmE s 8 e = some e' := by
  rw [itr_succ, h] at h2
  exact h2

theorem extract_mid {x t y : ByteArray} : (x ++ t ++ y).extract x.size (x.size + t.size) = t := by
  refine ByteArray.ext ?_
  rw [ByteArray.data_extract, ByteArray.data_append, ByteArray.data_append]
  have e1 : x.size = x.data.size := rfl
  have e2 : t.size = t.data.size := rfl
  rw [e1, e2, Array.append_assoc, Array.extract_append, Array.extract_append]
  have z1 : x.data.extract x.data.size (x.data.size + t.data.size) = #[] := Array.extract_empty_of_size_le_start (Nat.le_refl _)
  have z2 : x.data.size - x.data.size = 0 := Nat.sub_self _
  have z3 : x.data.size + t.data.size - x.data.size = t.data.size := by omega
  rw [z1, z2, z3]
  simp
theorem lsB_split {l : List ByteArray} : ∀ {i : Nat}, i ≤ l.length → ∃ y, lsB l l.length = lsB l i ++ y := fun {i} h => by
  obtain ⟨d, hd⟩ : ∃ d, l.length = i + d := ⟨l.length - i, by omega⟩
  induction d generalizing i with
  | zero => exact ⟨ByteArray.empty, by rw [hd]; simp⟩
  | succ d ih =>
    obtain ⟨y, hy⟩ := ih (i := i + 1) (by omega) (by omega)
    exact ⟨l[i]'(by omega) ++ y, by rw [hy, lsB_succ (by omega), ByteArray.append_assoc]⟩

theorem ch_get (c : UInt8) (y : ByteArray) : ((⟨#[c]⟩ : ByteArray) ++ y)[0]? = some c := by
  rw [cat_left (by show 0 < 1; omega)]
  rfl

theorem parts_list {l : List ByteArray} (h : listB l ≠ ⟨#[]⟩) : partsB (listB l) = some l := by
  have hall : (∀ x ∈ l, tOk x = true) ∧ l.length ≤ 12 := by
    apply Classical.byContradiction
    intro hn
    apply h
    unfold listB
    rw [if_neg hn]
    rfl
  rw [listB_yes hall.1 hall.2] at h ⊢
  have hok : tOk (lsB l l.length) = true := by
    cases ht : tOk (lsB l l.length) with
    | true => rfl
    | false =>
      exfalso
      apply h
      unfold okB
      rw [ht]
      rfl
  have hs : okB (lsB l l.length) = lsB l l.length := by unfold okB; rw [if_pos hok]
  rw [hs]
  obtain ⟨y0, hy0⟩ := lsB_split (l := l) (i := 0) (Nat.zero_le _)
  have h0 : lsB l 0 = (⟨#[108]⟩ : ByteArray) ++ varB (l.length : Int) := rfl
  rw [h0, ByteArray.append_assoc] at hy0
  have hc : (lsB l l.length)[0]? = some 108 := by rw [hy0]; exact ch_get _ _
  have hr : rdV (rest (lsB l l.length) 1) = (l.length, (varL l.length).length) := by
    rw [hy0, rest_one, read_var (by omega)]
  have hz0 : (lsB l 0).size = 1 + (varL l.length).length := by
    rw [h0, app_size, sz1]
    have hV : varB (l.length : Int) = strOf (varL l.length) := by unfold varB; rw [if_pos (by omega)]; rfl
    rw [hV, strOf_size]
  have hpos : ∀ j, j ≤ l.length → itr (tmE (lsB l l.length) 8) j (1 + (varL l.length).length) = some (lsB l j).size := by
    intro j
    induction j with
    | zero => intro _; rw [itr, hz0]
    | succ j ih =>
      intro hj
      rw [itr_succ, ih (by omega)]
      simp only
      obtain ⟨y, hy⟩ := lsB_split (l := l) (i := j + 1) hj
      rw [hy, lsB_succ (by omega)]
      have ht := (tOk_t.1 (hall.1 _ (List.getElem_mem (show j < l.length by omega)))).2.2
      have := tm_ext (x := lsB l j) (y := y) ht
      rw [Nat.add_zero] at this
      rw [this, app_size]
  unfold partsB
  rw [if_pos ⟨hok, hc⟩, hr]
  congr 1
  refine List.ext_getElem? fun j => ?_
  unfold segL
  rw [List.getElem?_map]
  by_cases hj : j < l.length
  · rw [List.getElem?_range hj, List.getElem?_eq_getElem hj]
    simp only [Option.map_some, posN, hpos j (by omega), hpos (j + 1) hj, Option.getD_some]
    obtain ⟨y, hy⟩ := lsB_split (l := l) (i := j + 1) hj
    rw [hy, lsB_succ hj, app_size, extract_mid]
  · rw [List.getElem?_eq_none (by simp; omega), List.getElem?_eq_none (by omega)]
    rfl

theorem sealB_yes {k : Int} {t : ByteArray} (h : sealB k t ≠ ⟨#[]⟩) : 1 ≤ k ∧ k ≤ 1000000 ∧ tOk (sealB k t) = true ∧ sealB k t = (⟨#[115]⟩ : ByteArray) ++ (varB k ++ t) := by
  unfold sealB at h ⊢
  by_cases hc : tOk t = true ∧ 1 ≤ k ∧ k ≤ 1000000
  · rw [if_pos hc] at h ⊢
    unfold okB at h ⊢
    by_cases ho : tOk (chS ++ varB k ++ t) = true
    · rw [if_pos ho]
      exact ⟨hc.2.1, hc.2.2, ho, by rw [ByteArray.append_assoc]; rfl⟩
    · rw [if_neg ho] at h
      exact absurd rfl h
  · rw [if_neg hc] at h
    exact absurd rfl h
theorem rest_two {c : UInt8} {v t : ByteArray} : rest ((⟨#[c]⟩ : ByteArray) ++ (v ++ t)) (1 + v.size) = t := by
  have e : (⟨#[c]⟩ : ByteArray) ++ (v ++ t) = ((⟨#[c]⟩ : ByteArray) ++ v) ++ t ++ ByteArray.empty := by
    rw [← ByteArray.append_assoc]; simp
  have hz : ((⟨#[c]⟩ : ByteArray) ++ v).size = 1 + v.size := by rw [app_size, sz1]
  have := rest_mid (x := (⟨#[c]⟩ : ByteArray) ++ v) (t := t) (y := ByteArray.empty) (a := 0) (Nat.zero_le _)
  rw [Nat.add_zero, hz] at this
  rw [e, this]
  unfold rest
  refine ByteArray.ext ?_
  rw [ByteArray.data_append, ByteArray.data_extract]
  have : t.size = t.data.size := rfl
  rw [this]
  simp
theorem varB_nat {n : Nat} (h : n ≤ 562949953421311) : varB (n : Int) = strOf (varL n) := by unfold varB; rw [if_pos (by omega)]; rfl
theorem open_seal {k : Int} {t : ByteArray} (h : sealB k t ≠ ⟨#[]⟩) : openB (sealB k t) k = some t := by
  obtain ⟨h1, h2, ho, e⟩ := sealB_yes h
  obtain ⟨n, rfl⟩ : ∃ n : Nat, k = n := ⟨k.toNat, by omega⟩
  have hr : rdV (rest (sealB (n : Int) t) 1) = (n, (varL n).length) := by rw [e, rest_one, read_var (by omega)]
  unfold openB
  rw [if_pos ⟨ho, by rw [e]; exact ch_get _ _, by rw [hr]⟩, hr, e]
  congr 1
  have := rest_two (c := 115) (v := varB (n : Int)) (t := t)
  rw [varB_nat (by omega), strOf_size] at this
  rw [varB_nat (by omega)]
  exact this

theorem atom_read {x : ByteArray} (hx : x.size ≤ 562949953421311) (h : atomB x ≠ ⟨#[]⟩) : atomR (atomB x) = some x := by
  have ho : tOk (chA ++ varB (x.size : Int) ++ x) = true := by
    cases ht : tOk (chA ++ varB (x.size : Int) ++ x) with
    | true => rfl
    | false =>
      exfalso
      apply h
      unfold atomB okB
      rw [ht]
      rfl
  have e : atomB x = (⟨#[97]⟩ : ByteArray) ++ (varB (x.size : Int) ++ x) := by
    unfold atomB okB
    rw [if_pos ho, ByteArray.append_assoc]
    rfl
  have ho2 : tOk (atomB x) = true := by
    have : atomB x = chA ++ varB (x.size : Int) ++ x := by unfold atomB okB; rw [if_pos ho]
    rw [this]; exact ho
  have hr : rdV (rest (atomB x) 1) = (x.size, (varL x.size).length) := by rw [e, rest_one, read_var hx]
  unfold atomR
  rw [if_pos ⟨ho2, by rw [e]; exact ch_get _ _⟩, hr, e]
  congr 1
  have := rest_two (c := 97) (v := varB (x.size : Int)) (t := x)
  rw [varB_nat hx, strOf_size] at this
  rw [varB_nat hx]
  exact this

theorem num_read {n : Int} (h : numB n ≠ ⟨#[]⟩) : numR (numB n) = some n := by
  unfold numB at h ⊢
  by_cases hv : varB n = ByteArray.empty
  · rw [if_pos hv] at h; exact absurd rfl h
  rw [if_neg hv] at h ⊢
  have hn : 0 ≤ n ∧ n ≤ 562949953421311 := by
    apply Classical.byContradiction
    intro hn
    apply hv
    unfold varB
    rw [if_neg hn]
  obtain ⟨k, rfl⟩ : ∃ k : Nat, n = k := ⟨n.toNat, by omega⟩
  have hs := varB_size (k : Int)
  unfold numR
  rw [atom_read (by omega) h]
  simp only
  have hr := read_var (n := k) (x := ByteArray.empty) (by omega)
  rw [ByteArray.append_empty] at hr
  have hl := varL_pos k
  have hz : (varB (k : Int)).size = (varL k).length := by rw [varB_nat (by omega), strOf_size]
  rw [hr, if_neg (by rw [hz]; simp only; omega)]
end Go.Proofs.Ytpdkgbamakileaa.Ev

/- Reading seals, atoms and numbers: both ways. -/
namespace Go.Proofs.Ytpdkgbamakileaa.Ev
set_option linter.all false
open Go
set_option maxRecDepth 4000

theorem slc_mid {s : St} {x y z : X} {b : ByteArray} {i k : Nat} (hi : i ≤ k) (hk : k ≤ b.size) (hx : exv s.ρ x = some (.string b)) (hy : exv s.ρ y = some (.int .i64 i)) (hz : exv s.ρ z = some (.int .i64 k)) : slcSK s x (some y) (some z) = some (.val (.string (b.extract i k)), s) := by
  unfold slcSK
  rw [hx]
  simp only [bnd, hy, hz]
  rw [if_pos ⟨by omega, by omega, by omega⟩]
  rfl

open Classical in
/-- A term of a kind. -/
noncomputable def isB (s : ByteArray) (c : UInt8) : Bool := tOk s && decide (s[0]? = some c)
theorem isB_t {s : ByteArray} {c : UInt8} : isB s c = true ↔ tOk s = true ∧ s[0]? = some c := by
  unfold isB; simp
def opV : Option ByteArray → Value
  | some t => .tuple #[.string t, .bool true]
  | none => .tuple #[.string ⟨#[]⟩, .bool false]
def onV : Option Int → Value
  | some n => .tuple #[.int .i64 n, .bool true]
  | none => .tuple #[.int .i64 0, .bool false]
theorem opV_flat (o : Option ByteArray) : flatScal (opV o) = true := by cases o <;> rfl
theorem onV_flat (o : Option Int) : flatScal (onV o) = true := by cases o <;> rfl
theorem openB_no {s : ByteArray} {k : Int} (h : isB s 115 = false) : openB s k = none := by
  unfold openB
  rw [if_neg]
  rintro ⟨h1, h2, _⟩
  rw [isB_t.2 ⟨h1, h2⟩] at h
  cases h
theorem openB_ne {s : ByteArray} {k : Int} (h : ¬ ((rdV (rest s 1)).1 : Int) = k) : openB s k = none := by
  unfold openB
  rw [if_neg fun h2 => h h2.2.2]
theorem openB_yes {s : ByteArray} {k : Int} (h : isB s 115 = true) (h2 : ((rdV (rest s 1)).1 : Int) = k) : openB s k = some (rest s (1 + (rdV (rest s 1)).2)) := by
  unfold openB
  rw [if_pos ⟨(isB_t.1 h).1, (isB_t.1 h).2, h2⟩]
theorem atomR_no {s : ByteArray} (h : isB s 97 = false) : atomR s = none := by
  unfold atomR
  rw [if_neg]
  rintro ⟨h1, h2⟩
  rw [isB_t.2 ⟨h1, h2⟩] at h
  cases h
theorem atomR_yes {s : ByteArray} (h : isB s 97 = true) : atomR s = some (rest s (1 + (rdV (rest s 1)).2)) := by
  unfold atomR
  rw [if_pos (isB_t.1 h)]
theorem partsB_no {s : ByteArray} (h : isB s 108 = false) : partsB s = none := by
  unfold partsB
  rw [if_neg]
  rintro ⟨h1, h2⟩
  rw [isB_t.2 ⟨h1, h2⟩] at h
  cases h
theorem partsB_yes {s : ByteArray} (h : isB s 108 = true) : partsB s = some (segL s (1 + (rdV (rest s 1)).2) (rdV (rest s 1)).1) := by
  unfold partsB
  rw [if_pos (isB_t.1 h)]

theorem chd (q : Nat) (hq : q < 256) (c : UInt8) : decide (((c.toNat : Nat) : Int) = (q : Int)) = decide (c = UInt8.ofNat q) := by
  rw [Bool.eq_iff_iff]; simp only [decide_eq_true_eq]; exact ch_eq hq
theorem chd97 (c : UInt8) : decide (((c.toNat : Nat) : Int) = 97) = decide (c = 97) := chd 97 (by decide) c
theorem chd108 (c : UInt8) : decide (((c.toNat : Nat) : Int) = 108) = decide (c = 108) := chd 108 (by decide) c
theorem chd115 (c : UInt8) : decide (((c.toNat : Nat) : Int) = 115) = decide (c = 115) := chd 115 (by decide) c

theorem f118 {H : Hp} {s : ByteArray} {q : Int} {cq : UInt8} (hs : s.size ≤ 4611686018427387904) (hq : ∀ c : UInt8, decide (((c.toNat : Nat) : Int) = q) = decide (c = cq)) : Scal EE 118 [.string s, .int .u8 q] H (.bool (isB s cq)) := by
  refine scal_ok rfl rfl k118 (by simp [c118]) rfl fun m hw => ?_
  have a96 := fun {m draw t d ts Q} => callT_at (m := m) (draw := draw) (s := t) (d := d) (ts := ts) (Q := Q) (f96 (H := H) hs)
  unfold isB
  cases h : tOk s with
  | false => simp only [go_sem, ↓reduceIte, Nat.reduceEqDiff, reduceCtorEq, Nat.reduceAdd, Nat.reduceLeDiff, Nat.reduceMul, c118, a96, hw, h]
  | true =>
    obtain ⟨c, hc⟩ := (tOk_head h).2
    have hix : ∀ {t : St} {x : X}, exv t.ρ x = some (.string s) → idxK t x (.c (.int .i64 0)) = some (.val (.int .u8 c.toNat), t) := fun {t x} hx => idx_at (i := 0) hc hx rfl
    have e : decide (s[0]? = some cq) = decide (c = cq) := by rw [hc]; simp
    simp only [go_sem, ↓reduceIte, Nat.reduceEqDiff, reduceCtorEq, Nat.reduceAdd, Nat.reduceLeDiff, Nat.reduceMul, c118, a96, hw, h, hix, hq, e]

/-- What the first number of a term needs. -/
theorem head_le {s : ByteArray} (h : tOk s = true) : 1 ≤ s.size ∧ s.size ≤ 900 ∧ 1 + (rdV (rest s 1)).2 ≤ s.size ∧ (rdV (rest s 1)).1 ≤ 562949953421311 := by
  have h1 := tOk_t.1 h
  have hr := rdV_le (rest s 1)
  rw [rest_size] at hr
  have := h1.1
  have := h1.2.1
  omega
theorem va_yes {s : ByteArray} (h : tOk s = true) : vaN s 1 = ((rdV (rest s 1)).1 : Int) := by
  unfold vaN
  rw [if_neg (tOk_head h).1]

noncomputable def sealedV (s : ByteArray) : Value := if isB s 115 = true then .tuple #[.int .i64 ((rdV (rest s 1)).1 : Nat), .string (rest s (1 + (rdV (rest s 1)).2)), .bool true] else .tuple #[.int .i64 0, .string ⟨#[]⟩, .bool false]
theorem f83 {H : Hp} {s : ByteArray} (hs : s.size ≤ 4611686018427387904) : Scal EE 83 [.string s] H (sealedV s) := by
  refine scal_ok rfl rfl k83 (by simp [c83]) (by unfold sealedV; split <;> rfl) fun m hw => ?_
  have a118 := fun {m draw t d ts Q} => callT_at (m := m) (draw := draw) (s := t) (d := d) (ts := ts) (Q := Q) (f118 (H := H) hs chd115)
  unfold sealedV
  cases h : isB s 115 with
  | false => simp only [go_sem, ↓reduceIte, Nat.reduceEqDiff, reduceCtorEq, Nat.reduceAdd, Nat.reduceLeDiff, Nat.reduceMul, c83, a118, hw, h]
  | true =>
    have ht := (isB_t.1 h).1
    have hz := head_le ht
    have a119 := fun {m draw t d ts Q} => callT_at (m := m) (draw := draw) (s := t) (d := d) (ts := ts) (Q := Q) (f119 (H := H) (a := 1) hs (by omega))
    have a119 : ∀ {m : Md} {draw : Bool} {t : St} {d' : Option Nat} {ts : List Tk} {Q : Ex → St → Prop}, t.H = H → Wr m H → callT EE m draw 119 (some [.string s, .int .i64 1]) t d' ts Q = go EE m ts { t with ρ := upd t.ρ d' (.val (.tuple #[.int .i64 ((rdV (rest s 1)).1 : Nat), .int .i64 ((1 + (rdV (rest s 1)).2 : Nat) : Int)])) } Q := fun {m draw t d' ts Q} h1 h2 => by rw [← va_yes ht]; exact a119 h1 h2
    have hsl := fun {t : St} {x y : X} => slc_rest (s := t) (x := x) (y := y) (b := s) (k := 1 + (rdV (rest s 1)).2) hz.2.2.1
    simp only [go_sem, ↓reduceIte, Nat.reduceEqDiff, reduceCtorEq, Nat.reduceAdd, Nat.reduceLeDiff, Nat.reduceMul, c83, a118, hw, h, a119, List.getElem?_toArray]
    refine go_draw ?_
    simp only [go_sem, ↓reduceIte, Nat.reduceEqDiff, reduceCtorEq, Nat.reduceAdd, Nat.reduceLeDiff, Nat.reduceMul, hsl]
    rfl

theorem f103 {H : Hp} {s : ByteArray} {k : Int} (hs : s.size ≤ 4611686018427387904) : Scal EE 103 [.string s, .int .i64 k] H (opV (openB s k)) := by
  refine scal_ok rfl rfl k103 (by simp [c103]) (opV_flat _) fun m hw => ?_
  have a83 := fun {m draw t d ts Q} => callT_at (m := m) (draw := draw) (s := t) (d := d) (ts := ts) (Q := Q) (f83 (H := H) hs)
  unfold sealedV at a83
  cases h : isB s 115 with
  | false =>
    rw [openB_no h]
    simp only [go_sem, ↓reduceIte, Nat.reduceEqDiff, reduceCtorEq, Nat.reduceAdd, Nat.reduceLeDiff, Nat.reduceMul, c103, a83, hw, h, List.getElem?_toArray, opV]
  | true =>
    simp only [go_sem, ↓reduceIte, Nat.reduceEqDiff, reduceCtorEq, Nat.reduceAdd, Nat.reduceLeDiff, Nat.reduceMul, c103, a83, hw, h, List.getElem?_toArray]
    refine brT.intro (fun q => ?_) (fun q => ?_) <;> simp only [go_sem, ↓reduceIte, Nat.reduceEqDiff, reduceCtorEq, Nat.reduceAdd, Nat.reduceLeDiff, Nat.reduceMul, q]
    · have q : ((rdV (rest s 1)).1 : Int) = k := by simpa using q
      rw [openB_yes h q]
      rfl
    · have q : ¬ ((rdV (rest s 1)).1 : Int) = k := by simpa using q
      rw [openB_ne q]
      rfl

theorem f100 {H : Hp} {s : ByteArray} {k : Int} (hs : s.size ≤ 4611686018427387904) : Scal EE 100 [.string s, .int .i64 k] H (opV (openB s k)) := by
  refine scal_ok rfl rfl k100 (by simp [c100]) (opV_flat _) fun m hw => ?_
  have a88 := fun {m draw t d ts Q} => callT_at (m := m) (draw := draw) (s := t) (d := d) (ts := ts) (Q := Q) (f88 (H := H) hs)
  cases ht : tOk s with
  | false =>
    rw [openB_no (by unfold isB; rw [ht]; rfl)]
    simp only [go_sem, ↓reduceIte, Nat.reduceEqDiff, reduceCtorEq, Nat.reduceAdd, Nat.reduceLeDiff, Nat.reduceMul, c100, a88, hw, ht, opV]
  | true =>
    obtain ⟨c, hc⟩ := (tOk_head ht).2
    have hz := head_le ht
    have hix : ∀ {t : St} {x : X}, exv t.ρ x = some (.string s) → idxK t x (.c (.int .i64 0)) = some (.val (.int .u8 c.toNat), t) := fun {t x} hx => idx_at (i := 0) hc hx rfl
    have hrs := rest_size s 1
    have a127 := fun {m draw t d ts Q} => callT_at (m := m) (draw := draw) (s := t) (d := d) (ts := ts) (Q := Q) (f127 (H := H) (s := rest s 1) (by omega))
    have hsl1 : ∀ {t : St} {x : X}, exv t.ρ x = some (.string s) → slcSK t x (some (.c (.int .i64 1))) none = some (.val (.string (rest s 1)), t) := fun {t x} hx => slc_rest (k := 1) (by omega) hx rfl
    have hsl2 : ∀ {t : St} {x y : X}, exv t.ρ x = some (.string s) → exv t.ρ y = some (.int .i64 (1 + ((rdV (rest s 1)).2 : Int))) → slcSK t x (some y) none = some (.val (.string (rest s (1 + (rdV (rest s 1)).2))), t) := fun {t x y} hx hy => slc_rest (k := 1 + (rdV (rest s 1)).2) hz.2.2.1 hx (by rw [hy]; rfl)
    have w1 : IntKind.i64.wrap (1 + ((rdV (rest s 1)).2 : Int)) = 1 + ((rdV (rest s 1)).2 : Int) := wrap64 _ (by omega) (by omega)
    simp only [go_sem, ↓reduceIte, Nat.reduceEqDiff, reduceCtorEq, Nat.reduceAdd, Nat.reduceLeDiff, Nat.reduceMul, c100, a88, hw, ht, hix, chd115]
    refine brT.intro (fun q => ?_) (fun q => ?_) <;> simp only [go_sem, ↓reduceIte, Nat.reduceEqDiff, reduceCtorEq, Nat.reduceAdd, Nat.reduceLeDiff, Nat.reduceMul, q, hsl1, a127, hw, List.getElem?_toArray]
    · have q : c = 115 := by simpa using q
      have hB : isB s 115 = true := isB_t.2 ⟨ht, by rw [hc, q]⟩
      refine brT.intro (fun q2 => ?_) (fun q2 => ?_) <;> simp only [go_sem, ↓reduceIte, Nat.reduceEqDiff, reduceCtorEq, Nat.reduceAdd, Nat.reduceLeDiff, Nat.reduceMul, q2, w1, hsl2]
      · have q2 : ((rdV (rest s 1)).1 : Int) = k := by simpa using q2
        rw [openB_yes hB q2]
        rfl
      · have q2 : ¬ ((rdV (rest s 1)).1 : Int) = k := by simpa using q2
        rw [openB_ne q2]
        rfl
    · have q : ¬ c = 115 := by simpa using q
      rw [openB_no (by unfold isB; rw [hc]; simp [q])]
      rfl

theorem f105 {H : Hp} {s : ByteArray} (hs : s.size ≤ 4611686018427387904) : Scal EE 105 [.string s] H (opV (atomR s)) := by
  refine scal_ok rfl rfl k105 (by simp [c105]) (opV_flat _) fun m hw => ?_
  have a118 := fun {m draw t d ts Q} => callT_at (m := m) (draw := draw) (s := t) (d := d) (ts := ts) (Q := Q) (f118 (H := H) hs chd97)
  cases h : isB s 97 with
  | false =>
    rw [atomR_no h]
    simp only [go_sem, ↓reduceIte, Nat.reduceEqDiff, reduceCtorEq, Nat.reduceAdd, Nat.reduceLeDiff, Nat.reduceMul, c105, a118, hw, h, opV]
  | true =>
    rw [atomR_yes h]
    have ht := (isB_t.1 h).1
    have hz := head_le ht
    have a119 := fun {m draw t d ts Q} => callT_at (m := m) (draw := draw) (s := t) (d := d) (ts := ts) (Q := Q) (f119 (H := H) (a := 1) hs (by omega))
    have a119 : ∀ {m : Md} {draw : Bool} {t : St} {d' : Option Nat} {ts : List Tk} {Q : Ex → St → Prop}, t.H = H → Wr m H → callT EE m draw 119 (some [.string s, .int .i64 1]) t d' ts Q = go EE m ts { t with ρ := upd t.ρ d' (.val (.tuple #[.int .i64 ((rdV (rest s 1)).1 : Nat), .int .i64 ((1 + (rdV (rest s 1)).2 : Nat) : Int)])) } Q := fun {m draw t d' ts Q} h1 h2 => by rw [← va_yes ht]; exact a119 h1 h2
    have hsl := fun {t : St} {x y : X} => slc_rest (s := t) (x := x) (y := y) (b := s) (k := 1 + (rdV (rest s 1)).2) hz.2.2.1
    simp only [go_sem, ↓reduceIte, Nat.reduceEqDiff, reduceCtorEq, Nat.reduceAdd, Nat.reduceLeDiff, Nat.reduceMul, c105, a118, hw, h, a119, List.getElem?_toArray, hsl, opV]

theorem f102 {H : Hp} {s : ByteArray} (hs : s.size ≤ 4611686018427387904) : Scal EE 102 [.string s] H (opV (atomR s)) := by
  refine scal_ok rfl rfl k102 (by simp [c102]) (opV_flat _) fun m hw => ?_
  have a88 := fun {m draw t d ts Q} => callT_at (m := m) (draw := draw) (s := t) (d := d) (ts := ts) (Q := Q) (f88 (H := H) hs)
  cases ht : tOk s with
  | false =>
    rw [atomR_no (by unfold isB; rw [ht]; rfl)]
    simp only [go_sem, ↓reduceIte, Nat.reduceEqDiff, reduceCtorEq, Nat.reduceAdd, Nat.reduceLeDiff, Nat.reduceMul, c102, a88, hw, ht, opV]
  | true =>
    obtain ⟨c, hc⟩ := (tOk_head ht).2
    have hz := head_le ht
    have hix : ∀ {t : St} {x : X}, exv t.ρ x = some (.string s) → idxK t x (.c (.int .i64 0)) = some (.val (.int .u8 c.toNat), t) := fun {t x} hx => idx_at (i := 0) hc hx rfl
    have hrs := rest_size s 1
    have a127 := fun {m draw t d ts Q} => callT_at (m := m) (draw := draw) (s := t) (d := d) (ts := ts) (Q := Q) (f127 (H := H) (s := rest s 1) (by omega))
    have hsl1 : ∀ {t : St} {x : X}, exv t.ρ x = some (.string s) → slcSK t x (some (.c (.int .i64 1))) none = some (.val (.string (rest s 1)), t) := fun {t x} hx => slc_rest (k := 1) (by omega) hx rfl
    have hsl2 : ∀ {t : St} {x y : X}, exv t.ρ x = some (.string s) → exv t.ρ y = some (.int .i64 (1 + ((rdV (rest s 1)).2 : Int))) → slcSK t x (some y) none = some (.val (.string (rest s (1 + (rdV (rest s 1)).2))), t) := fun {t x y} hx hy => slc_rest (k := 1 + (rdV (rest s 1)).2) hz.2.2.1 hx (by rw [hy]; rfl)
    have w1 : IntKind.i64.wrap (1 + ((rdV (rest s 1)).2 : Int)) = 1 + ((rdV (rest s 1)).2 : Int) := wrap64 _ (by omega) (by omega)
    simp only [go_sem, ↓reduceIte, Nat.reduceEqDiff, reduceCtorEq, Nat.reduceAdd, Nat.reduceLeDiff, Nat.reduceMul, c102, a88, hw, ht, hix, chd97]
    refine brT.intro (fun q => ?_) (fun q => ?_) <;> simp only [go_sem, ↓reduceIte, Nat.reduceEqDiff, reduceCtorEq, Nat.reduceAdd, Nat.reduceLeDiff, Nat.reduceMul, q, hsl1, a127, hw, List.getElem?_toArray, w1, hsl2]
    · have q : c = 97 := by simpa using q
      rw [atomR_yes (isB_t.2 ⟨ht, by rw [hc, q]⟩)]
      rfl
    · have q : ¬ c = 97 := by simpa using q
      rw [atomR_no (by unfold isB; rw [hc]; simp [q])]
      rfl

/-- What a reader of numbers makes of an atom. -/
theorem numR_eq (s : ByteArray) : numR s = if (atomR s).isSome = false ∨ (rdV ((atomR s).getD ⟨#[]⟩)).2 = 0 ∨ (rdV ((atomR s).getD ⟨#[]⟩)).2 ≠ ((atomR s).getD ⟨#[]⟩).size then none else some ((rdV ((atomR s).getD ⟨#[]⟩)).1 : Int) := by
  unfold numR
  cases atomR s with
  | none => simp
  | some d => simp
theorem atomR_size {s : ByteArray} : ((atomR s).getD ⟨#[]⟩).size ≤ s.size := by
  unfold atomR
  split
  · simp only [Option.getD_some]
    rw [rest_size]
    omega
  · exact Nat.zero_le _
theorem opV_at (o : Option ByteArray) : opV o = .tuple #[.string (o.getD ⟨#[]⟩), .bool o.isSome] := by cases o <;> rfl
theorem f104 {H : Hp} {s : ByteArray} (hs : s.size ≤ 4611686018427387904) : Scal EE 104 [.string s] H (onV (numR s)) := by
  refine scal_ok rfl rfl k104 (by simp [c104]) (onV_flat _) fun m hw => ?_
  have a105 := fun {m draw t d ts Q} => callT_at (m := m) (draw := draw) (s := t) (d := d) (ts := ts) (Q := Q) (f105 (H := H) hs)
  rw [opV_at] at a105
  rw [numR_eq]
  have hdz := atomR_size (s := s)
  generalize (atomR s).getD ⟨#[]⟩ = d at a105 hdz ⊢
  generalize (atomR s).isSome = b at a105 ⊢
  have a128 := fun {m draw t d' ts Q} => callT_at (m := m) (draw := draw) (s := t) (d := d') (ts := ts) (Q := Q) (f128 (H := H) (s := d) (by omega))
  generalize rdV d = p at a128 ⊢
  obtain ⟨n, k⟩ := p
  simp only at a128 ⊢
  cases b with
  | false =>
    rw [if_pos (Or.inl rfl)]
    simp only [go_sem, ↓reduceIte, Nat.reduceEqDiff, reduceCtorEq, Nat.reduceAdd, Nat.reduceLeDiff, Nat.reduceMul, c104, a105, hw, a128, List.getElem?_toArray, onV]
  | true =>
    simp only [go_sem, ↓reduceIte, Nat.reduceEqDiff, reduceCtorEq, Nat.reduceAdd, Nat.reduceLeDiff, Nat.reduceMul, c104, a105, hw, a128, List.getElem?_toArray]
    refine brT.intro (fun q => ?_) (fun q => ?_) <;> simp only [go_sem, ↓reduceIte, Nat.reduceEqDiff, reduceCtorEq, Nat.reduceAdd, Nat.reduceLeDiff, Nat.reduceMul, q, lenTK]
    · have q : k = 0 := by have := of_decide_eq_true q; omega
      rw [if_pos (Or.inr (Or.inl q))]
      rfl
    · have q : ¬ k = 0 := by have := of_decide_eq_false q; omega
      refine brT.intro (fun q2 => ?_) (fun q2 => ?_) <;> simp only [go_sem, ↓reduceIte, Nat.reduceEqDiff, reduceCtorEq, Nat.reduceAdd, Nat.reduceLeDiff, Nat.reduceMul, q2]
      · have q2 : k = d.size := by have := of_decide_eq_true q2; omega
        rw [if_neg (fun h => h.elim (fun h => nomatch h) fun h => h.elim (fun h => q h) fun h => h q2)]
        rfl
      · have q2 : ¬ k = d.size := by have := of_decide_eq_false q2; omega
        rw [if_pos (Or.inr (Or.inr q2))]
        rfl
theorem f101 {H : Hp} {s : ByteArray} (hs : s.size ≤ 4611686018427387904) : Scal EE 101 [.string s] H (onV (numR s)) := by
  refine scal_ok rfl rfl k101 (by simp [c101]) (onV_flat _) fun m hw => ?_
  have a102 := fun {m draw t d ts Q} => callT_at (m := m) (draw := draw) (s := t) (d := d) (ts := ts) (Q := Q) (f102 (H := H) hs)
  rw [opV_at] at a102
  rw [numR_eq]
  have hdz := atomR_size (s := s)
  generalize (atomR s).getD ⟨#[]⟩ = d at a102 hdz ⊢
  generalize (atomR s).isSome = b at a102 ⊢
  have a127 := fun {m draw t d' ts Q} => callT_at (m := m) (draw := draw) (s := t) (d := d') (ts := ts) (Q := Q) (f127 (H := H) (s := d) (by omega))
  generalize rdV d = p at a127 ⊢
  obtain ⟨n, k⟩ := p
  simp only at a127 ⊢
  cases b with
  | false =>
    rw [if_pos (Or.inl rfl)]
    simp only [go_sem, ↓reduceIte, Nat.reduceEqDiff, reduceCtorEq, Nat.reduceAdd, Nat.reduceLeDiff, Nat.reduceMul, c101, a102, hw, a127, List.getElem?_toArray, onV]
  | true =>
    simp only [go_sem, ↓reduceIte, Nat.reduceEqDiff, reduceCtorEq, Nat.reduceAdd, Nat.reduceLeDiff, Nat.reduceMul, c101, a102, hw, a127, List.getElem?_toArray]
    refine brT.intro (fun q => ?_) (fun q => ?_) <;> simp only [go_sem, ↓reduceIte, Nat.reduceEqDiff, reduceCtorEq, Nat.reduceAdd, Nat.reduceLeDiff, Nat.reduceMul, q, lenTK]
    · have q : k = 0 := by have := of_decide_eq_true q; omega
      rw [if_pos (Or.inr (Or.inl q))]
      rfl
    · have q : ¬ k = 0 := by have := of_decide_eq_false q; omega
      refine brT.intro (fun q2 => ?_) (fun q2 => ?_) <;> simp only [go_sem, ↓reduceIte, Nat.reduceEqDiff, reduceCtorEq, Nat.reduceAdd, Nat.reduceLeDiff, Nat.reduceMul, q2]
      · have q2 : k = d.size := by have := of_decide_eq_true q2; omega
        rw [if_neg (fun h => h.elim (fun h => nomatch h) fun h => h.elim (fun h => q h) fun h => h q2)]
        rfl
      · have q2 : ¬ k = d.size := by have := of_decide_eq_false q2; omega
        rw [if_pos (Or.inr (Or.inr q2))]
        rfl
end Go.Proofs.Ytpdkgbamakileaa.Ev

/- The parts of a list: both ways. -/
namespace Go.Proofs.Ytpdkgbamakileaa.Ev
set_option linter.all false
open Go
set_option maxRecDepth 4000

theorem pos_step {s : ByteArray} (h : isB s 108 = true) {i : Nat} (hi : i < (rdV (rest s 1)).1) :
    tmE s 8 (posN s (1 + (rdV (rest s 1)).2) i) = some (posN s (1 + (rdV (rest s 1)).2) (i + 1)) ∧ posN s (1 + (rdV (rest s 1)).2) i ≤ posN s (1 + (rdV (rest s 1)).2) (i + 1) ∧ posN s (1 + (rdV (rest s 1)).2) (i + 1) ≤ s.size := by
  obtain ⟨h1, h2⟩ := isB_t.1 h
  obtain ⟨e, he, hle⟩ := pos_some h1 h2 i (by omega)
  obtain ⟨e', he', hle'⟩ := pos_some h1 h2 (i + 1) (by omega)
  have hn := pos_next he he'
  have e1 : posN s (1 + (rdV (rest s 1)).2) i = e := by unfold posN; rw [he]; rfl
  have e2 : posN s (1 + (rdV (rest s 1)).2) (i + 1) = e' := by unfold posN; rw [he']; rfl
  rw [e1, e2]
  have := (tmE_le hn).1
  exact ⟨hn, by omega, hle'⟩
theorem pos_zero (s : ByteArray) (e0 : Nat) : posN s e0 0 = e0 := rfl
theorem parts_le {s : ByteArray} (h : isB s 108 = true) : (rdV (rest s 1)).1 ≤ 12 := (tOk_list (isB_t.1 h).1 (isB_t.1 h).2).1

def PartR (H : Hp) (s : ByteArray) (r : Value) (H' : Hp) : Prop := ∃ w, r = .tuple #[w, .bool (partsB s).isSome] ∧ FreshS eS 1 H w H' ((partsB s).getD [])

theorem f81 {m : Md} {H : Hp} {s : ByteArray} (hs : s.size ≤ 4611686018427387904) (hw : Wr m H) : Fun EE m 81 [.string s] H fun r H' => PartR H s r H' := by
  refine fun_f rfl rfl k81 (by simp [c81]) ?_
  have a118 := fun {m draw t d ts Q} => callT_at (m := m) (draw := draw) (s := t) (d := d) (ts := ts) (Q := Q) (f118 (H := H) hs chd108)
  cases h : isB s 108 with
  | false =>
    have e := partsB_no h
    simp only [go_sem, ↓reduceIte, Nat.reduceEqDiff, reduceCtorEq, Nat.reduceAdd, Nat.reduceLeDiff, Nat.reduceMul, c81, a118, hw, h]
    exact ⟨_, by rw [e]; rfl, List.prefix_refl _, by rw [e]; exact .inl ⟨rfl, rfl⟩, .inl rfl⟩
  | true =>
    have e := partsB_yes h
    have ht := (isB_t.1 h).1
    have hz := head_le ht
    have h12 := parts_le h
    have hps := fun {i : Nat} (hi : i < (rdV (rest s 1)).1) => pos_step h hi
    have a119 := fun {m draw t d ts Q} => callT_at (m := m) (draw := draw) (s := t) (d := d) (ts := ts) (Q := Q) (f119 (H := H) (a := 1) hs (by omega))
    have a119 : ∀ {m : Md} {draw : Bool} {t : St} {d' : Option Nat} {ts : List Tk} {Q : Ex → St → Prop}, t.H = H → Wr m H → callT EE m draw 119 (some [.string s, .int .i64 1]) t d' ts Q = go EE m ts { t with ρ := upd t.ρ d' (.val (.tuple #[.int .i64 ((rdV (rest s 1)).1 : Nat), .int .i64 ((1 + (rdV (rest s 1)).2 : Nat) : Int)])) } Q := fun {m draw t d' ts Q} h1 h2 => by rw [← va_yes ht]; exact a119 h1 h2
    have p0 : H <+: H ++ [[]] := List.prefix_append _ _
    have s0 : SlS (H ++ [[]]) (.slice (some ⟨H.length, 0, some 1⟩) 0 (0 * 1)) [] := own_newS
    have o0 : OwnS H.length (.slice (some ⟨H.length, 0, some 1⟩) 0 (0 * 1)) := .inr ⟨_, _, _, _, rfl, Nat.le_refl _⟩
    generalize hwv : Value.slice (some ⟨H.length, 0, some 1⟩) 0 (0 * 1) = wv0 at s0 o0
    generalize hn : (rdV (rest s 1)).1 = n at *
    generalize he0 : 1 + (rdV (rest s 1)).2 = e0 at *
    unfold PartR
    rw [e]
    simp only [go_sem, ↓reduceIte, Nat.reduceEqDiff, reduceCtorEq, Nat.reduceAdd, Nat.reduceLeDiff, Nat.reduceMul, c81, a118, hw, h, a119, List.getElem?_toArray, fillL, hwv]
    refine go_for n (fun i t => H <+: t.H ∧ t.ρ 0 = .val (.string s) ∧ t.ρ 17 = .val (.int .i64 n) ∧ t.ρ 18 = .val (.int .i64 i) ∧ t.ρ 5 = .val (.int .i64 (posN s e0 i)) ∧ ∃ wv, t.ρ 6 = .val wv ∧ SlS t.H wv (segL s e0 i) ∧ OwnS H.length wv)
      (fun t => H <+: t.H ∧ ∃ wv, t.ρ 6 = .val wv ∧ SlS t.H wv (segL s e0 n) ∧ OwnS H.length wv) ?_ ?_ ?_
    · exact ⟨p0, by simp [upd, ini], by simp [upd], by simp [upd], by simp [upd, pos_zero], wv0, by simp [upd], s0, o0⟩
    · rintro i t hi ⟨kH, k0, k17, k18, k5, wv, k6, ks, ko⟩
      simp only [go_sem, ↓reduceIte, Nat.reduceEqDiff, reduceCtorEq, Nat.reduceAdd, Nat.reduceLeDiff, Nat.reduceMul, k0, k17, k18]
      refine brT.intro (fun q => ?_) (fun q => ?_) <;> simp only [go_sem, ↓reduceIte, Nat.reduceEqDiff, reduceCtorEq, Nat.reduceAdd, Nat.reduceLeDiff, Nat.reduceMul, k0, k17, k18, k5, k6]
      · have hil : i < n := by have := of_decide_eq_true q; omega
        obtain ⟨t1, t2, t3⟩ := hps hil
        have kw := hw.pre kH
        have a120 := fun {m draw t' d' ts Q} => callT_at (m := m) (draw := draw) (s := t') (d := d') (ts := ts) (Q := Q) (f120 hs 8 (Nat.le_refl _) (H := t.H) (a := posN s e0 i) (by omega))
        have a120 : ∀ {m : Md} {draw : Bool} {t' : St} {d' : Option Nat} {ts : List Tk} {Q : Ex → St → Prop}, t'.H = t.H → Wr m t.H → callT EE m draw 120 (some [.string s, .int .i64 (posN s e0 i), .int .i64 8]) t' d' ts Q = go EE m ts { t' with ρ := upd t'.ρ d' (.val (.int .i64 (posN s e0 (i + 1) : Nat))) } Q := fun {m draw t' d' ts Q} h1 h2 => by rw [t1] at a120; exact a120 h1 h2
        have hsl := fun {t' : St} {x y z : X} => slc_mid (s := t') (x := x) (y := y) (z := z) t2 t3
        obtain ⟨v2, H2, d1, d2, d3, d4, d5, d6, d7⟩ := ks.oneS (m := m) (s.extract (posN s e0 i) (posN s e0 (i + 1))) ko kH.length_le hw (by rw [segL_len]; omega)
        have hp2 := d7 H (Nat.le_refl _) kH
        simp only [go_sem, ↓reduceIte, Nat.reduceEqDiff, reduceCtorEq, Nat.reduceAdd, Nat.reduceLeDiff, Nat.reduceMul, k0, k17, k18, k5, k6, a120, kw, hsl]
        rw [d1]
        rotate_left
        · rfl
        · rfl
        · rfl
        simp only [go_sem, ↓reduceIte, Nat.reduceEqDiff, reduceCtorEq, Nat.reduceAdd, Nat.reduceLeDiff, Nat.reduceMul, k0, k17, k18, k5, k6, wrap64 ((i : Int) + 1) (by omega) (by omega)]
        exact ⟨hil, hp2, by simp, v2, rfl, by rw [segL_succ]; exact d2, d3⟩
      · have : i = n := by have := of_decide_eq_false q; omega
        subst this
        exact ⟨kH, wv, rfl, ks, ko⟩
    · rintro t ⟨kH, wv, k6, ks, ko⟩
      simp only [go_sem, ↓reduceIte, Nat.reduceEqDiff, reduceCtorEq, Nat.reduceAdd, Nat.reduceLeDiff, Nat.reduceMul, k6]
      exact ⟨wv, rfl, kH, ks, ko⟩

theorem f93 {m : Md} {H : Hp} {s : ByteArray} (hs : s.size ≤ 4611686018427387904) (hw : Wr m H) : Fun EE m 93 [.string s] H fun r H' => PartR H s r H' := by
  refine fun_f rfl rfl k93 (by simp [c93]) ?_
  have p0 : H <+: H ++ [[]] := List.prefix_append _ _
  have w0 := hw.pre p0
  have a88 := fun {m draw t d ts Q} => callT_at (m := m) (draw := draw) (s := t) (d := d) (ts := ts) (Q := Q) (f88 (H := H ++ [[]]) hs)
  have s0 : SlS (H ++ [[]]) (.slice (some ⟨H.length, 0, some 1⟩) 0 (0 * 1)) [] := own_newS
  have o0 : OwnS H.length (.slice (some ⟨H.length, 0, some 1⟩) 0 (0 * 1)) := .inr ⟨_, _, _, _, rfl, Nat.le_refl _⟩
  generalize hwv : Value.slice (some ⟨H.length, 0, some 1⟩) 0 (0 * 1) = wv0 at s0 o0
  have no : partsB s = none → PartR H s (.tuple #[wv0, .bool false]) (H ++ [[]]) := fun e => ⟨_, by rw [e]; rfl, p0, by rw [e]; exact s0, o0⟩
  cases ht : tOk s with
  | false =>
    simp only [go_sem, ↓reduceIte, Nat.reduceEqDiff, reduceCtorEq, Nat.reduceAdd, Nat.reduceLeDiff, Nat.reduceMul, c93, fillL, hwv, a88, w0, ht]
    exact no (partsB_no (by unfold isB; rw [ht]; rfl))
  | true =>
    obtain ⟨c, hc⟩ := (tOk_head ht).2
    have hz := head_le ht
    have hix : ∀ {t : St} {x : X}, exv t.ρ x = some (.string s) → idxK t x (.c (.int .i64 0)) = some (.val (.int .u8 c.toNat), t) := fun {t x} hx => idx_at (i := 0) hc hx rfl
    have hrs := rest_size s 1
    have a127 := fun {m draw t d ts Q} => callT_at (m := m) (draw := draw) (s := t) (d := d) (ts := ts) (Q := Q) (f127 (H := H ++ [[]]) (s := rest s 1) (by omega))
    have hsl1 : ∀ {t : St} {x : X}, exv t.ρ x = some (.string s) → slcSK t x (some (.c (.int .i64 1))) none = some (.val (.string (rest s 1)), t) := fun {t x} hx => slc_rest (k := 1) (by omega) hx rfl
    have w1 : IntKind.i64.wrap (1 + ((rdV (rest s 1)).2 : Int)) = ((1 + (rdV (rest s 1)).2 : Nat) : Int) := by rw [wrap64 _ (by omega) (by omega)]; omega
    simp only [go_sem, ↓reduceIte, Nat.reduceEqDiff, reduceCtorEq, Nat.reduceAdd, Nat.reduceLeDiff, Nat.reduceMul, c93, fillL, hwv, a88, w0, ht, hix, chd108]
    refine brT.intro (fun q => ?_) (fun q => ?_) <;> simp only [go_sem, ↓reduceIte, Nat.reduceEqDiff, reduceCtorEq, Nat.reduceAdd, Nat.reduceLeDiff, Nat.reduceMul, q, hsl1, a127, w0, List.getElem?_toArray, w1]
    rotate_left
    · have q : ¬ c = 108 := by simpa using q
      exact no (partsB_no (by unfold isB; rw [hc]; simp [q]))
    have q : c = 108 := by simpa using q
    have h : isB s 108 = true := isB_t.2 ⟨ht, by rw [hc, q]⟩
    have e := partsB_yes h
    have h12 := parts_le h
    have hps := fun {i : Nat} (hi : i < (rdV (rest s 1)).1) => pos_step h hi
    generalize hn : (rdV (rest s 1)).1 = n at *
    generalize he0 : 1 + (rdV (rest s 1)).2 = e0 at *
    unfold PartR
    rw [e]
    refine go_for n (fun i t => H <+: t.H ∧ t.ρ 0 = .val (.string s) ∧ t.ρ 5 = .val (.int .i64 n) ∧ t.ρ 8 = .val (.int .i64 i) ∧ t.ρ 7 = .val (.int .i64 (posN s e0 i)) ∧ ∃ wv, t.ρ 4 = .val wv ∧ SlS t.H wv (segL s e0 i) ∧ OwnS H.length wv)
      (fun t => H <+: t.H ∧ ∃ wv, t.ρ 4 = .val wv ∧ SlS t.H wv (segL s e0 n) ∧ OwnS H.length wv) ?_ ?_ ?_
    · exact ⟨p0, by simp [upd, ini], by simp [upd], by simp [upd], by simp [upd, pos_zero], wv0, by simp [upd], s0, o0⟩
    · rintro i t hi ⟨kH, k0, k5, k8, k7, wv, k4, ks, ko⟩
      simp only [go_sem, ↓reduceIte, Nat.reduceEqDiff, reduceCtorEq, Nat.reduceAdd, Nat.reduceLeDiff, Nat.reduceMul, k0, k5, k8]
      refine brT.intro (fun q => ?_) (fun q => ?_) <;> simp only [go_sem, ↓reduceIte, Nat.reduceEqDiff, reduceCtorEq, Nat.reduceAdd, Nat.reduceLeDiff, Nat.reduceMul, k0, k4, k5, k7, k8]
      · have hil : i < n := by have := of_decide_eq_true q; omega
        obtain ⟨t1, t2, t3⟩ := hps hil
        have kw := hw.pre kH
        refine callT_to (fun m' h => f126 hs 8 (Nat.le_refl _) (H := t.H) (a := posN s e0 i) (by omega) m' h) rfl kw fun r1 H1 ⟨⟨dd1, e1⟩, e2⟩ => ?_
        subst e1
        have e2 : H1 = t.H := e2
        subst e2
        rw [t1]
        have w2 : IntKind.i64.wrap (((posN s e0 i : Nat) : Int) + (((posN s e0 (i + 1) : Nat) : Int) - ((posN s e0 i : Nat) : Int))) = ((posN s e0 (i + 1) : Nat) : Int) := by rw [wrap64 _ (by omega) (by omega)]; omega
        have hsl := fun {t' : St} {x y z : X} => slc_mid (s := t') (x := x) (y := y) (z := z) t2 t3
        obtain ⟨v2, H2, d1, d2, d3, d4, d5, d6, d7⟩ := ks.oneS (m := m) (s.extract (posN s e0 i) (posN s e0 (i + 1))) ko kH.length_le hw (by rw [segL_len]; omega)
        have hp2 := d7 H (Nat.le_refl _) kH
        simp only [go_sem, ↓reduceIte, Nat.reduceEqDiff, reduceCtorEq, Nat.reduceAdd, Nat.reduceLeDiff, Nat.reduceMul, lenE, List.getElem?_toArray, ofV, k0, k4, k5, k7, k8, w2, hsl]
        rw [d1]
        rotate_left
        · rfl
        · rfl
        · rfl
        simp only [go_sem, ↓reduceIte, Nat.reduceEqDiff, reduceCtorEq, Nat.reduceAdd, Nat.reduceLeDiff, Nat.reduceMul, k0, k4, k5, k7, k8, w2, wrap64 ((i : Int) + 1) (by omega) (by omega)]
        exact ⟨hil, hp2, by simp, v2, rfl, by rw [segL_succ]; exact d2, d3⟩
      · have : i = n := by have := of_decide_eq_false q; omega
        subst this
        exact ⟨kH, wv, rfl, ks, ko⟩
    · rintro t ⟨kH, wv, k4, ks, ko⟩
      simp only [go_sem, ↓reduceIte, Nat.reduceEqDiff, reduceCtorEq, Nat.reduceAdd, Nat.reduceLeDiff, Nat.reduceMul, k4]
      exact ⟨wv, rfl, kH, ks, ko⟩
end Go.Proofs.Ytpdkgbamakileaa.Ev

/- A sealed line read: both ways. -/
namespace Go.Proofs.Ytpdkgbamakileaa.Ev
set_option linter.all false
open Go
set_option maxRecDepth 4000

noncomputable def inB (k : Int) (row : ByteArray) : ByteArray := (openB row k).getD ⟨#[]⟩
noncomputable def ptL (k : Int) (row : ByteArray) : List ByteArray := (partsB (inB k row)).getD []
noncomputable def lnL (k : Int) (row : ByteArray) : Ln := if (ptL k row).length = 4 then ((numR ((ptL k row)[1]?.getD ⟨#[]⟩)).getD 0, (numR ((ptL k row)[2]?.getD ⟨#[]⟩)).getD 0, (atomR ((ptL k row)[3]?.getD ⟨#[]⟩)).getD ⟨#[]⟩) else (0, 0, ⟨#[]⟩)
def LnOk (k q : Int) (row : ByteArray) : Prop := (ptL k row).length = 4 ∧ sealLine k q (lnL k row) = row
open Classical in
noncomputable def lnOk (k q : Int) (row : ByteArray) : Bool := decide (LnOk k q row)
theorem lnOk_t {k q : Int} {row : ByteArray} : lnOk k q row = true ↔ LnOk k q row := by unfold lnOk; simp

theorem openB_size {s t : ByteArray} {k : Int} (h : openB s k = some t) : t.size ≤ s.size := by
  unfold openB at h
  split at h
  · cases h
    rw [rest_size]
    omega
  · cases h
theorem inB_size (k : Int) (row : ByteArray) : (inB k row).size ≤ row.size := by
  unfold inB
  cases h : openB row k with
  | none => exact Nat.zero_le _
  | some t => exact openB_size h
theorem segL_size {s : ByteArray} {e0 n : Nat} : ∀ x ∈ segL s e0 n, x.size ≤ s.size := by
  intro x hx
  unfold segL at hx
  obtain ⟨j, _, rfl⟩ := List.mem_map.1 hx
  rw [ByteArray.size_extract]
  omega
theorem partsB_size {s : ByteArray} : ∀ x ∈ (partsB s).getD [], x.size ≤ s.size := by
  unfold partsB
  split
  · exact segL_size
  · intro x hx; simp at hx
theorem ptL_size {k : Int} {row : ByteArray} : ∀ x ∈ ptL k row, x.size ≤ row.size := fun x hx => Nat.le_trans (partsB_size x hx) (inB_size k row)
theorem ptL_at (k : Int) (row : ByteArray) (i : Nat) : ((ptL k row)[i]?.getD ⟨#[]⟩).size ≤ row.size := by
  cases h : (ptL k row)[i]? with
  | none => exact Nat.zero_le _
  | some x => exact ptL_size x (List.mem_of_getElem? h)
theorem lnL_size (k : Int) (row : ByteArray) : (lnL k row).2.2.size ≤ row.size := by
  unfold lnL
  split
  · exact Nat.le_trans atomR_size (ptL_at k row 3)
  · exact Nat.zero_le _

theorem parts_empty : partsB ⟨#[]⟩ = none := by
  unfold partsB
  rw [if_neg]
  rintro ⟨h, _⟩
  have := tOk_empty
  rw [show ByteArray.empty = (⟨#[]⟩ : ByteArray) from rfl] at this
  rw [this] at h
  cases h
theorem ptL_open {k : Int} {row : ByteArray} (h : (openB row k).isSome = false) : ptL k row = [] := by
  have : openB row k = none := by cases h2 : openB row k with
    | none => rfl
    | some t => rw [h2] at h; cases h
  unfold ptL inB
  rw [this]
  show (partsB ⟨#[]⟩).getD [] = []
  rw [parts_empty]
  rfl
theorem ptL_parts {k : Int} {row : ByteArray} (h : (partsB (inB k row)).isSome = false) : ptL k row = [] := by
  have : partsB (inB k row) = none := by cases h2 : partsB (inB k row) with
    | none => rfl
    | some t => rw [h2] at h; cases h
  unfold ptL
  rw [this]
  rfl
theorem four_open {k : Int} {row : ByteArray} (h : (ptL k row).length = 4) : (openB row k).isSome = true ∧ (partsB (inB k row)).isSome = true := by
  constructor
  · cases h2 : (openB row k).isSome with
    | true => rfl
    | false => rw [ptL_open h2] at h; cases h
  · cases h2 : (partsB (inB k row)).isSome with
    | true => rfl
    | false => rw [ptL_parts h2] at h; cases h
theorem tOk_ne {s : ByteArray} (h : tOk s = true) : s ≠ ⟨#[]⟩ := fun e => by
  rw [e, show (⟨#[]⟩ : ByteArray) = ByteArray.empty from rfl, tOk_empty] at h
  cases h
theorem four_row {k : Int} {row : ByteArray} (h : (ptL k row).length = 4) : row ≠ ⟨#[]⟩ := by
  have := (four_open h).1
  unfold openB at this
  split at this
  · rename_i h2; exact tOk_ne h2.1
  · cases this

/-- What was sealed is read. -/
theorem ln_reads {k q : Int} {row : ByteArray} (h : LnOk k q row) (hz : row.size ≤ 562949953421311) :
    ptL k row = lineP q (lnL k row) ∧ (numR ((ptL k row)[1]?.getD ⟨#[]⟩)).isSome = true ∧ (numR ((ptL k row)[2]?.getD ⟨#[]⟩)).isSome = true ∧ (atomR ((ptL k row)[3]?.getD ⟨#[]⟩)).isSome = true := by
  obtain ⟨h4, hs⟩ := h
  have hne := four_row h4
  have hln := lnL_size k row
  rw [← hs] at hne
  unfold sealLine at hne hs
  have ho := open_seal hne
  rw [hs] at ho
  have hlb : listB (lineP q (lnL k row)) ≠ ⟨#[]⟩ := fun e => by rw [e, sealB_no] at hne; exact hne rfl
  have hp := parts_list hlb
  have e : ptL k row = lineP q (lnL k row) := by
    unfold ptL inB
    rw [ho]
    show (partsB (listB (lineP q (lnL k row)))).getD [] = _
    rw [hp]
    rfl
  have hall : ∀ x ∈ lineP q (lnL k row), x ≠ ⟨#[]⟩ := fun x hx => by
    cases ht : tOk x with
    | true => exact tOk_ne ht
    | false => exact absurd (listB_no hx ht) hlb
  have e1 : (ptL k row)[1]?.getD ⟨#[]⟩ = numB (lnL k row).1 := by rw [e]; rfl
  have e2 : (ptL k row)[2]?.getD ⟨#[]⟩ = numB (lnL k row).2.1 := by rw [e]; rfl
  have e3 : (ptL k row)[3]?.getD ⟨#[]⟩ = atomB (lnL k row).2.2 := by rw [e]; rfl
  refine ⟨e, ?_, ?_, ?_⟩
  · rw [e1, num_read (hall _ (by simp [lineP]))]; rfl
  · rw [e2, num_read (hall _ (by simp [lineP]))]; rfl
  · rw [e3, atom_read (by omega) (hall _ (by simp [lineP]))]; rfl

theorem onV_at (o : Option Int) : onV o = .tuple #[.int .i64 (o.getD 0), .bool o.isSome] := by cases o <;> rfl
theorem Sl.strC {H : Hp} {v : Value} {l : List ByteArray} (h : SlS H v l) {i : Nat} (hi : i < l.length) (c : Int) (hc : c = (i : Int)) : ∃ id p o, H[id]? = some o ∧ o[p]? = some (.string (l[i]?.getD ⟨#[]⟩)) ∧
    ∀ (s : St) (x : X), exv s.ρ x = some v → iadrK s 1 x (.c (.int .i64 c)) = some (.val (.pointer (some ⟨id, p, some o.length⟩)), s) := by
  subst hc
  obtain ⟨id, p, o, h1, h2, h3⟩ := h.str (List.getElem?_eq_getElem hi)
  exact ⟨id, p, o, h1, by rw [List.getElem?_eq_getElem hi]; exact h2, fun s x hx => h3 s x _ hx rfl⟩

theorem f63 {H : Hp} {k q : Int} {row : ByteArray} (hz : row.size ≤ 1048576) : Scal EE 63 [.int .i64 k, .int .i64 q, .string row] H (.tuple #[vLn (lnL k row), .bool (lnOk k q row)]) := by
  refine scal_ok rfl rfl k63 (by simp [c63]) rfl fun m hw => ?_
  have a100 := fun {m draw t d ts Q} => callT_at (m := m) (draw := draw) (s := t) (d := d) (ts := ts) (Q := Q) (f100 (H := H) (s := row) (k := k) (by omega))
  rw [opV_at] at a100
  have hin := inB_size k row
  have ei : (openB row k).getD ⟨#[]⟩ = inB k row := rfl
  rw [ei] at a100
  simp only [go_sem, ↓reduceIte, Nat.reduceEqDiff, reduceCtorEq, Nat.reduceAdd, Nat.reduceLeDiff, Nat.reduceMul, c63, a100, hw, List.getElem?_toArray, ofV]
  refine callT_to (fun m' h => f93 (s := inB k row) (by omega) h) rfl hw fun r1 H1 ⟨w, e1, hp, hs, hown⟩ => ?_
  subst e1
  have ep : (partsB (inB k row)).getD [] = ptL k row := rfl
  rw [ep] at hs
  have w1 := hw.pre hp
  by_cases h4 : (ptL k row).length = 4
  · obtain ⟨b1, b2⟩ := four_open h4
    have h4d : decide (((ptL k row).length : Int) = 4) = true := decide_eq_true (by omega)
    obtain ⟨i1, p1, o1, g1, g1', j1⟩ := hs.strC (i := 1) (by omega) 1 rfl
    obtain ⟨i2, p2, o2, g2, g2', j2⟩ := hs.strC (i := 2) (by omega) 2 rfl
    obtain ⟨i3, p3, o3, g3, g3', j3⟩ := hs.strC (i := 3) (by omega) 3 rfl
    have z1 := ptL_at k row 1
    have z2 := ptL_at k row 2
    have z3 := ptL_at k row 3
    have a1 := fun {m draw t d ts Q} => callT_at (m := m) (draw := draw) (s := t) (d := d) (ts := ts) (Q := Q) (f101 (H := H1) (s := (ptL k row)[1]?.getD ⟨#[]⟩) (by omega))
    have a2 := fun {m draw t d ts Q} => callT_at (m := m) (draw := draw) (s := t) (d := d) (ts := ts) (Q := Q) (f101 (H := H1) (s := (ptL k row)[2]?.getD ⟨#[]⟩) (by omega))
    have a3 := fun {m draw t d ts Q} => callT_at (m := m) (draw := draw) (s := t) (d := d) (ts := ts) (Q := Q) (f102 (H := H1) (s := (ptL k row)[3]?.getD ⟨#[]⟩) (by omega))
    rw [onV_at] at a1 a2
    rw [opV_at] at a3
    have hln := lnL_size k row
    have a14 := fun {m draw t d ts Q} => callT_at (m := m) (draw := draw) (s := t) (d := d) (ts := ts) (Q := Q) (f14 (H := H1) (k := k) (q := q) (z := lnL k row) (by omega))
    have hL : lnL k row = ((numR ((ptL k row)[1]?.getD ⟨#[]⟩)).getD 0, (numR ((ptL k row)[2]?.getD ⟨#[]⟩)).getD 0, (atomR ((ptL k row)[3]?.getD ⟨#[]⟩)).getD ⟨#[]⟩) := by
      unfold lnL
      rw [if_pos h4]
    have key : lnOk k q row = ((numR ((ptL k row)[1]?.getD ⟨#[]⟩)).isSome && ((numR ((ptL k row)[2]?.getD ⟨#[]⟩)).isSome && ((atomR ((ptL k row)[3]?.getD ⟨#[]⟩)).isSome && decide (sealLine k q (lnL k row) = row)))) := by
      rw [Bool.eq_iff_iff, lnOk_t]
      simp only [Bool.and_eq_true, decide_eq_true_eq]
      constructor
      · intro h
        obtain ⟨_, r1, r2, r3⟩ := ln_reads h (by omega)
        exact ⟨r1, r2, r3, h.2⟩
      · rintro ⟨_, _, _, h⟩
        exact ⟨h4, h⟩
    rw [key]
    generalize sealLine k q (lnL k row) = sl at a14 ⊢
    rw [hL] at a14 ⊢
    unfold vLn at a14 ⊢
    generalize (numR ((ptL k row)[1]?.getD ⟨#[]⟩)).isSome = x1 at a1 ⊢
    generalize (numR ((ptL k row)[2]?.getD ⟨#[]⟩)).isSome = x2 at a2 ⊢
    generalize (atomR ((ptL k row)[3]?.getD ⟨#[]⟩)).isSome = x3 at a3 ⊢
    simp only [go_sem, ↓reduceIte, Nat.reduceEqDiff, reduceCtorEq, Nat.reduceAdd, Nat.reduceLeDiff, Nat.reduceMul, List.getElem?_toArray, ofV, b1, b2, hs.len, h4d, j1, g1, g1', a1, w1, j2, g2, g2', a2, j3, g3, g3', a3]
    refine go_draw ?_
    cases x1 <;> cases x2 <;> cases x3 <;> simp only [go_sem, ↓reduceIte, Nat.reduceEqDiff, reduceCtorEq, Nat.reduceAdd, Nat.reduceLeDiff, Nat.reduceMul, a14, w1]
    all_goals exact ⟨by rfl, pre_take hp⟩
  · have hL : lnL k row = (0, 0, ⟨#[]⟩) := by unfold lnL; rw [if_neg h4]
    have hK : lnOk k q row = false := by
      cases h : lnOk k q row with
      | false => rfl
      | true => exact absurd (lnOk_t.1 h).1 h4
    have h4d : decide (((ptL k row).length : Int) = 4) = false := decide_eq_false (by omega)
    rw [hL, hK]
    generalize (openB row k).isSome = b1
    generalize (partsB (inB k row)).isSome = b2
    unfold vLn
    cases b1 <;> cases b2 <;> simp only [go_sem, ↓reduceIte, Nat.reduceEqDiff, reduceCtorEq, Nat.reduceAdd, Nat.reduceLeDiff, Nat.reduceMul, List.getElem?_toArray, ofV, hs.len, h4d]
    all_goals exact pre_take hp

theorem f64 {H : Hp} {k q : Int} {row : ByteArray} (hz : row.size ≤ 1048576) : Scal EE 64 [.int .i64 k, .int .i64 q, .string row] H (.tuple #[vLn (lnL k row), .bool (lnOk k q row)]) := by
  refine scal_ok rfl rfl k64 (by simp [c64]) rfl fun m hw => ?_
  have a103 := fun {m draw t d ts Q} => callT_at (m := m) (draw := draw) (s := t) (d := d) (ts := ts) (Q := Q) (f103 (H := H) (s := row) (k := k) (by omega))
  rw [opV_at] at a103
  have hin := inB_size k row
  have ei : (openB row k).getD ⟨#[]⟩ = inB k row := rfl
  rw [ei] at a103
  simp only [go_sem, ↓reduceIte, Nat.reduceEqDiff, reduceCtorEq, Nat.reduceAdd, Nat.reduceLeDiff, Nat.reduceMul, c64, a103, hw, List.getElem?_toArray, ofV]
  refine callT_to (fun m' h => f81 (s := inB k row) (by omega) h) rfl hw fun r1 H1 ⟨w, e1, hp, hs, hown⟩ => ?_
  subst e1
  have ep : (partsB (inB k row)).getD [] = ptL k row := rfl
  rw [ep] at hs
  have w1 := hw.pre hp
  by_cases h4 : (ptL k row).length = 4
  · have h4d : decide (((ptL k row).length : Int) = 4) = true := decide_eq_true (by omega)
    obtain ⟨i1, p1, o1, g1, g1', j1⟩ := hs.strC (i := 1) (by omega) 1 rfl
    obtain ⟨i2, p2, o2, g2, g2', j2⟩ := hs.strC (i := 2) (by omega) 2 rfl
    obtain ⟨i3, p3, o3, g3, g3', j3⟩ := hs.strC (i := 3) (by omega) 3 rfl
    have z1 := ptL_at k row 1
    have z2 := ptL_at k row 2
    have z3 := ptL_at k row 3
    have a1 := fun {m draw t d ts Q} => callT_at (m := m) (draw := draw) (s := t) (d := d) (ts := ts) (Q := Q) (f104 (H := H1) (s := (ptL k row)[1]?.getD ⟨#[]⟩) (by omega))
    have a2 := fun {m draw t d ts Q} => callT_at (m := m) (draw := draw) (s := t) (d := d) (ts := ts) (Q := Q) (f104 (H := H1) (s := (ptL k row)[2]?.getD ⟨#[]⟩) (by omega))
    have a3 := fun {m draw t d ts Q} => callT_at (m := m) (draw := draw) (s := t) (d := d) (ts := ts) (Q := Q) (f105 (H := H1) (s := (ptL k row)[3]?.getD ⟨#[]⟩) (by omega))
    rw [onV_at] at a1 a2
    rw [opV_at] at a3
    have hln := lnL_size k row
    have a16 := fun {m draw t d ts Q} => callT_at (m := m) (draw := draw) (s := t) (d := d) (ts := ts) (Q := Q) (f16 (H := H1) (k := k) (q := q) (z := lnL k row) (by omega))
    have hL : lnL k row = ((numR ((ptL k row)[1]?.getD ⟨#[]⟩)).getD 0, (numR ((ptL k row)[2]?.getD ⟨#[]⟩)).getD 0, (atomR ((ptL k row)[3]?.getD ⟨#[]⟩)).getD ⟨#[]⟩) := by
      unfold lnL
      rw [if_pos h4]
    have key : lnOk k q row = decide (sealLine k q (lnL k row) = row) := by
      rw [Bool.eq_iff_iff, lnOk_t, decide_eq_true_eq]
      exact ⟨fun h => h.2, fun h => ⟨h4, h⟩⟩
    rw [key]
    generalize sealLine k q (lnL k row) = sl at a16 ⊢
    rw [hL] at a16 ⊢
    unfold vLn at a16 ⊢
    simp only [go_sem, ↓reduceIte, Nat.reduceEqDiff, reduceCtorEq, Nat.reduceAdd, Nat.reduceLeDiff, Nat.reduceMul, List.getElem?_toArray, ofV, hs.len, h4d, j1, g1, g1', a1, w1, j2, g2, g2', a2, j3, g3, g3', a3]
    refine go_draw ?_
    simp only [go_sem, ↓reduceIte, Nat.reduceEqDiff, reduceCtorEq, Nat.reduceAdd, Nat.reduceLeDiff, Nat.reduceMul, a16, w1]
    exact ⟨by rfl, pre_take hp⟩
  · have hL : lnL k row = (0, 0, ⟨#[]⟩) := by unfold lnL; rw [if_neg h4]
    have hK : lnOk k q row = false := by
      cases h : lnOk k q row with
      | false => rfl
      | true => exact absurd (lnOk_t.1 h).1 h4
    have h4d : decide (((ptL k row).length : Int) = 4) = false := decide_eq_false (by omega)
    rw [hL, hK]
    unfold vLn
    simp only [go_sem, ↓reduceIte, Nat.reduceEqDiff, reduceCtorEq, Nat.reduceAdd, Nat.reduceLeDiff, Nat.reduceMul, List.getElem?_toArray, ofV, hs.len, h4d]
    exact pre_take hp
end Go.Proofs.Ytpdkgbamakileaa.Ev

/- Reading a sealed log: both ways. -/
namespace Go.Proofs.Ytpdkgbamakileaa.Ev
set_option linter.all false
open Go
set_option maxRecDepth 4000

def ReadOk (k : Int) (rows : List ByteArray) (j : Nat) : Prop := ∀ row, rows[j]? = some row → LnOk k ((j : Int) + 1) row ∧ ∀ row', 0 < j → rows[j - 1]? = some row' → (lnL k row').1 ≤ (lnL k row).1
def FinOk (k : Int) (rows : List ByteArray) (head : ByteArray) : Prop := sealHead k rows.length ≠ ⟨#[]⟩ ∧ sealHead k rows.length = head ∧ rows.length ≤ 20
def ArR (k : Int) (rows : List ByteArray) (head : ByteArray) (l : List Ln) (n : Int) : Prop :=
  (∃ i, i < rows.length ∧ (∀ j, j < i → ReadOk k rows j) ∧ ¬ ReadOk k rows i ∧ l = [] ∧ n = (i : Int) + 1) ∨
  ((∀ j, j < rows.length → ReadOk k rows j) ∧ (FinOk k rows head ∧ l = rows.map (lnL k) ∧ n = 0 ∨ ¬ FinOk k rows head ∧ l = [] ∧ n = -1))
theorem ArR.unique {k : Int} {rows : List ByteArray} {head : ByteArray} {l l' : List Ln} {n n' : Int} (h : ArR k rows head l n) (h' : ArR k rows head l' n') : l = l' ∧ n = n' := by
  rcases h with ⟨i, h1, h2, h3, rfl, rfl⟩ | ⟨h1, h2⟩
  · rcases h' with ⟨i', k1, k2, k3, rfl, rfl⟩ | ⟨k1, k2⟩
    · have : i = i' := by
        rcases Nat.lt_trichotomy i i' with h | h | h
        · exact absurd (k2 _ h) h3
        · exact h
        · exact absurd (h2 _ h) k3
      subst this
      exact ⟨rfl, rfl⟩
    · exact absurd (k1 _ h1) h3
  · rcases h' with ⟨i', k1, k2, k3, rfl, rfl⟩ | ⟨k1, k2⟩
    · exact absurd (h1 _ k1) k3
    · rcases h2 with ⟨a, rfl, rfl⟩ | ⟨a, rfl, rfl⟩ <;> rcases k2 with ⟨b, rfl, rfl⟩ | ⟨b, rfl, rfl⟩
      · exact ⟨rfl, rfl⟩
      · exact absurd a b
      · exact absurd b a
      · exact ⟨rfl, rfl⟩
def ARd (H : Hp) (k : Int) (rows : List ByteArray) (head : ByteArray) (r : Value) (H' : Hp) : Prop := ∃ w n l, r = .tuple #[w, .int .i64 n] ∧ FreshS eLn 3 H w H' l ∧ ArR k rows head l n
theorem ARd.no {H H' : Hp} {k : Int} {rows : List ByteArray} {head : ByteArray} {w : Value} {i : Nat} (h1 : i < rows.length) (h2 : ∀ j, j < i → ReadOk k rows j) (h3 : ¬ ReadOk k rows i) (hf : FreshS eLn 3 H w H' []) : ARd H k rows head (.tuple #[w, .int .i64 ((i : Int) + 1)]) H' :=
  ⟨w, _, [], rfl, hf, .inl ⟨i, h1, h2, h3, rfl, rfl⟩⟩
theorem ARd.fin {H H' : Hp} {k : Int} {rows : List ByteArray} {head : ByteArray} {w : Value} (h1 : ∀ j, j < rows.length → ReadOk k rows j) (h3 : ¬ FinOk k rows head) (hf : FreshS eLn 3 H w H' []) : ARd H k rows head (.tuple #[w, .int .i64 (-1)]) H' :=
  ⟨w, _, [], rfl, hf, .inr ⟨h1, .inr ⟨h3, rfl, rfl⟩⟩⟩
theorem ARd.yes {H H' : Hp} {k : Int} {rows : List ByteArray} {head : ByteArray} {w : Value} (h1 : ∀ j, j < rows.length → ReadOk k rows j) (h3 : FinOk k rows head) (hf : FreshS eLn 3 H w H' (rows.map (lnL k))) : ARd H k rows head (.tuple #[w, .int .i64 0]) H' :=
  ⟨w, _, _, rfl, hf, .inr ⟨h1, .inl ⟨h3, rfl, rfl⟩⟩⟩
theorem FreshS.nil {H H' : Hp} (hp : H <+: H') : FreshS eLn 3 H (.slice none 0 0) H' [] := ⟨hp, .inl ⟨rfl, rfl⟩, .inl rfl⟩
theorem own_newLn {H : Hp} : SlLn (H ++ [[]]) (.slice (some ⟨H.length, 0, some 3⟩) 0 (0 * 3)) [] := .inr ⟨H.length, 0, 0, [], rfl, by simp, by simp, by simp, by simp, fun i a hi => by simp at hi⟩
theorem FreshS.newLn {H H' : Hp} (hp : H <+: H') : FreshS eLn 3 H (.slice (some ⟨H'.length, 0, some 3⟩) 0 (0 * 3)) (H' ++ [[]]) [] := ⟨hp.trans (List.prefix_append _ _), own_newLn, .inr ⟨_, _, _, _, rfl, hp.length_le⟩⟩

theorem Sl.oneLn {m : Md} {N : Nat} {H : Hp} {v : Value} {l : List Ln} (z : Ln) (h : SlLn H v l) (ho : OwnS N v) (hN : N ≤ H.length) (hw : ∀ id, N ≤ id → m.wr id = true) (hb : l.length < 1048576) :
    ∃ v' H', (∀ (s : St) (x y : X), s.H = H → exv s.ρ x = some v → ex s.ρ y = .vs 1 (eLn z) → appK m s 3 32 x y = some (.val v', { s with H := H' })) ∧ SlLn H' v' (l ++ [z]) ∧ OwnS N v' ∧
      (∀ j, j < H.length → j ∉ idsOf v → H'[j]? = H[j]?) ∧ H.length ≤ H'.length ∧ (∀ j ∈ idsOf v', j ∈ idsOf v ∨ H.length ≤ j) ∧ ∀ H0 : Hp, H0.length ≤ N → H0 <+: H → H0 <+: H' := by
  obtain ⟨v', H', h1, h2⟩ := h.app (m := m) (n := 1) (bytes := 32) (l2 := [z]) (cs := eLn z) ho hN hw (fun _ => rfl) (by simp) rfl (fun i b hi => by
    cases i with
    | zero => simp at hi; subst hi; rfl
    | succ i => simp at hi) (by unfold Ev.room; simp; omega) (by unfold Ev.room; simp; omega)
  exact ⟨v', H', fun s x y hH hx hy => h1 s x y hH hx (by rw [hy]; rfl), h2⟩

theorem take_map_get {k : Int} {rows : List ByteArray} {i j : Nat} (h : j < i) (hi : i ≤ rows.length) : ((rows.take i).map (lnL k))[j]? = some (lnL k (rows[j]'(by omega))) := by
  rw [List.getElem?_map, List.getElem?_take, if_pos h, List.getElem?_eq_getElem (by omega)]
  rfl
theorem take_map_succ {k : Int} {rows : List ByteArray} {i : Nat} (hi : i < rows.length) : (rows.take (i + 1)).map (lnL k) = (rows.take i).map (lnL k) ++ [lnL k rows[i]] := by
  rw [List.take_succ_eq_append_getElem hi, List.map_append]
  rfl
theorem readOk_at {k : Int} {rows : List ByteArray} {i : Nat} (hi : i < rows.length) : ReadOk k rows i ↔ LnOk k ((i : Int) + 1) rows[i] ∧ ∀ h : 0 < i, (lnL k (rows[i - 1]'(by omega))).1 ≤ (lnL k rows[i]).1 := by
  unfold ReadOk
  constructor
  · intro h
    obtain ⟨h1, h2⟩ := h _ (List.getElem?_eq_getElem hi)
    exact ⟨h1, fun h0 => h2 _ h0 (List.getElem?_eq_getElem (by omega))⟩
  · rintro ⟨h1, h2⟩ row hr
    rw [List.getElem?_eq_getElem hi] at hr
    cases hr
    refine ⟨h1, fun row' h0 hr' => ?_⟩
    rw [List.getElem?_eq_getElem (by omega)] at hr'
    cases hr'
    exact h2 h0

theorem f27 {m : Md} {H : Hp} {k : Int} {v : Value} {rows : List ByteArray} {head : ByteArray} (hl : SlS H v rows) (hle : rows.length ≤ 1048576) (hz : ∀ x ∈ rows, x.size ≤ 1048576) (hw : Wr m H) : Fun EE m 27 [.int .i64 k, v, .string head] H fun r H' => ARd H k rows head r H' := by
  refine fun_f rfl rfl k27 (by simp [c27]) ?_
  have p0 : H <+: H ++ [[]] := List.prefix_append _ _
  have s0 : SlLn (H ++ [[]]) (.slice (some ⟨H.length, 0, some 3⟩) 0 (0 * 3)) [] := own_newLn
  have o0 : OwnS H.length (.slice (some ⟨H.length, 0, some 3⟩) 0 (0 * 3)) := .inr ⟨_, _, _, _, rfl, Nat.le_refl _⟩
  generalize hwv : Value.slice (some ⟨H.length, 0, some 3⟩) 0 (0 * 3) = wv0 at s0 o0
  simp only [go_sem, ↓reduceIte, Nat.reduceEqDiff, reduceCtorEq, Nat.reduceAdd, Nat.reduceLeDiff, Nat.reduceMul, c27, fillL, hwv]
  refine go_for rows.length (fun i s => H <+: s.H ∧ s.ρ 0 = .val (.int .i64 k) ∧ s.ρ 1 = .val v ∧ s.ρ 2 = .val (.string head) ∧ s.ρ 9 = .val (.int .i64 i) ∧ (∃ wv, s.ρ 8 = .val wv ∧ SlLn s.H wv ((rows.take i).map (lnL k)) ∧ OwnS H.length wv) ∧ ∀ j, j < i → ReadOk k rows j)
    (fun s => H <+: s.H ∧ s.ρ 0 = .val (.int .i64 k) ∧ s.ρ 1 = .val v ∧ s.ρ 2 = .val (.string head) ∧ (∃ wv, s.ρ 8 = .val wv ∧ SlLn s.H wv (rows.map (lnL k)) ∧ OwnS H.length wv) ∧ ∀ j, j < rows.length → ReadOk k rows j) ?_ ?_ ?_
  · exact ⟨p0, by simp [upd, ini], by simp [upd, ini], by simp [upd, ini], by simp [upd], ⟨wv0, by simp [upd], s0, o0⟩, fun j hj => by omega⟩
  · rintro i s hi ⟨kH, k0, k1, k2, k9, ⟨wv, k8, ks, ko⟩, kok⟩
    have kl := hl.pre kH
    have kw := hw.pre kH
    simp only [go_sem, ↓reduceIte, Nat.reduceEqDiff, reduceCtorEq, Nat.reduceAdd, Nat.reduceLeDiff, Nat.reduceMul, k0, k1, k2, k8, k9, kl.len]
    refine brT.intro (fun c1 => ?_) (fun c1 => ?_) <;> simp only [go_sem, ↓reduceIte, Nat.reduceEqDiff, reduceCtorEq, Nat.reduceAdd, Nat.reduceLeDiff, Nat.reduceMul, k0, k1, k2, k8, k9]
    · have hil : i < rows.length := by have := of_decide_eq_true c1; omega
      have hzi := hz _ (List.getElem_mem hil)
      obtain ⟨id, p, o, ho, hr, hia⟩ := kl.str (List.getElem?_eq_getElem hil)
      have w1 : IntKind.i64.wrap ((i : Int) + 1) = (i : Int) + 1 := wrap64 _ (by omega) (by omega)
      have a63 := fun {m draw t d ts Q} => callT_at (m := m) (draw := draw) (s := t) (d := d) (ts := ts) (Q := Q) (f63 (H := s.H) (k := k) (q := (i : Int) + 1) hzi)
      unfold vLn at a63
      have hno := readOk_at (k := k) hil
      have hlb := lnOk_t (k := k) (q := (i : Int) + 1) (row := rows[i])
      obtain ⟨v2, H2, d1, d2, d3, d4, d5, d6, d7⟩ := ks.oneLn (m := m) (lnL k rows[i]) ko kH.length_le hw (by simp; omega)
      have hp2 := d7 H (Nat.le_refl _) kH
      generalize lnOk k ((i : Int) + 1) rows[i] = b at a63 hlb
      unfold eLn at d1
      simp only [go_sem, ↓reduceIte, Nat.reduceEqDiff, reduceCtorEq, Nat.reduceAdd, Nat.reduceLeDiff, Nat.reduceMul, k0, k1, k2, k8, k9, w1, hia, ho, hr, a63, kw, List.getElem?_toArray, ofV]
      refine go_draw ?_
      cases b with
      | false =>
        simp only [go_sem, ↓reduceIte, Nat.reduceEqDiff, reduceCtorEq, Nat.reduceAdd, Nat.reduceLeDiff, Nat.reduceMul, k0, k1, k2, k8, k9, w1, fillL]
        exact ⟨by rfl, ARd.no hil kok (fun h => by have := hlb.2 (hno.1 h).1; cases this) (FreshS.newLn kH)⟩
      | true =>
        have hlok := hlb.1 rfl
        simp only [go_sem, ↓reduceIte, Nat.reduceEqDiff, reduceCtorEq, Nat.reduceAdd, Nat.reduceLeDiff, Nat.reduceMul, k0, k1, k2, k8, k9, w1]
        refine brT.intro (fun c3 => ?_) (fun c3 => ?_) <;> simp only [go_sem, ↓reduceIte, Nat.reduceEqDiff, reduceCtorEq, Nat.reduceAdd, Nat.reduceLeDiff, Nat.reduceMul, c3, k0, k1, k2, k8, k9]
        · have hi0 : 0 < i := by have := of_decide_eq_true c3; omega
          obtain ⟨id', p', o', ho', hr', hp', hia'⟩ := ks.elem (take_map_get (k := k) (i := i) (j := i - 1) (by omega) (by omega))
          unfold En at hr'
          have ho1 : o'[p']? = some (.int .i64 (lnL k (rows[i - 1]'(by omega))).1) := by simpa [eLn] using getElem?_of_take hr' (j := 0) (by omega)
          have w2 : IntKind.i64.wrap ((i : Int) - 1) = ((i - 1 : Nat) : Int) := by rw [wrap64 _ (by omega) (by omega)]; omega
          simp only [go_sem, ↓reduceIte, Nat.reduceEqDiff, reduceCtorEq, Nat.reduceAdd, Nat.reduceLeDiff, Nat.reduceMul, c3, k0, k1, k2, k8, k9, w2, hia', ho', ho1]
          refine ⟨by rfl, ?_⟩
          refine brT.intro (fun c4 => ?_) (fun c4 => ?_) <;> simp only [go_sem, ↓reduceIte, Nat.reduceEqDiff, reduceCtorEq, Nat.reduceAdd, Nat.reduceLeDiff, Nat.reduceMul, k0, k1, k2, k8, k9, w1, fillL]
          · have c4' := of_decide_eq_true c4
            exact ARd.no hil kok (fun h => by have := (hno.1 h).2 hi0; omega) (FreshS.newLn kH)
          · have c4' := of_decide_eq_false c4
            rw [d1]
            rotate_left
            · rfl
            · rfl
            · rfl
            simp only [go_sem, ↓reduceIte, Nat.reduceEqDiff, reduceCtorEq, Nat.reduceAdd, Nat.reduceLeDiff, Nat.reduceMul, k0, k1, k2, k8, k9, w1]
            refine ⟨hil, hp2, by simp, ⟨v2, rfl, by rw [take_map_succ hil]; exact d2, d3⟩, fun j hj => ?_⟩
            by_cases e : j = i
            · subst e
              exact hno.2 ⟨hlok, fun _ => by omega⟩
            · exact kok j (by omega)
        · have hi0 : i = 0 := by have := of_decide_eq_false c3; omega
          refine ⟨by rfl, ?_⟩
          rw [d1]
          rotate_left
          · rfl
          · rfl
          · rfl
          simp only [go_sem, ↓reduceIte, Nat.reduceEqDiff, reduceCtorEq, Nat.reduceAdd, Nat.reduceLeDiff, Nat.reduceMul, k0, k1, k2, k8, k9, w1]
          refine ⟨hil, hp2, by simp, ⟨v2, rfl, by rw [take_map_succ hil]; exact d2, d3⟩, fun j hj => ?_⟩
          by_cases e : j = i
          · subst e
            exact hno.2 ⟨hlok, fun h => by omega⟩
          · exact kok j (by omega)
    · have : i = rows.length := by have := of_decide_eq_false c1; omega
      subst this
      rw [List.take_length] at ks
      exact ⟨kH, ⟨wv, rfl, ks, ko⟩, kok⟩
  · rintro s ⟨kH, k0, k1, k2, ⟨wv, k8, ks, ko⟩, kok⟩
    have kl := hl.pre kH
    have kw := hw.pre kH
    have a11 := fun {m draw t d ts Q} => callT_at (m := m) (draw := draw) (s := t) (d := d) (ts := ts) (Q := Q) (f11 (H := s.H) (k := k) (n := (rows.length : Int)))
    simp only [go_sem, ↓reduceIte, Nat.reduceEqDiff, reduceCtorEq, Nat.reduceAdd, Nat.reduceLeDiff, Nat.reduceMul, k0, k1, k2, k8, kl.len, a11, kw]
    refine brT.intro (fun q1 => ?_) (fun q1 => ?_) <;> simp only [go_sem, ↓reduceIte, Nat.reduceEqDiff, reduceCtorEq, Nat.reduceAdd, Nat.reduceLeDiff, Nat.reduceMul, q1, k0, k1, k2, k8, fillL, kl.len]
    · have q1' := of_decide_eq_true q1
      exact ARd.fin kok (fun h => h.1 q1') (FreshS.newLn kH)
    · have q1' := of_decide_eq_false q1
      refine brT.intro (fun q2 => ?_) (fun q2 => ?_) <;> simp only [go_sem, ↓reduceIte, Nat.reduceEqDiff, reduceCtorEq, Nat.reduceAdd, Nat.reduceLeDiff, Nat.reduceMul, q2, k0, k1, k2, k8, fillL, kl.len]
      · have q2' := of_decide_eq_true q2
        refine brT.intro (fun q3 => ?_) (fun q3 => ?_) <;> simp only [go_sem, ↓reduceIte, Nat.reduceEqDiff, reduceCtorEq, Nat.reduceAdd, Nat.reduceLeDiff, Nat.reduceMul, q3, k0, k1, k2, k8, fillL]
        · have q3' := of_decide_eq_true q3
          exact ARd.fin kok (fun h => by have := h.2.2; omega) (FreshS.newLn kH)
        · have q3' := of_decide_eq_false q3
          exact ARd.yes kok ⟨q1', q2', by omega⟩ ⟨kH, ks, ko⟩
      · have q2' := of_decide_eq_false q2
        exact ARd.fin kok (fun h => q2' h.2.1) (FreshS.newLn kH)

/-- All rows read: the log is one that can be sealed, but for its length and its head. -/
theorem aud_read {k : Int} {rows : List ByteArray} (hk : ∀ j, j < rows.length → ReadOk k rows j) : AudOk k (rows.map (lnL k)) ↔ rows.length ≤ 20 ∧ sealHead k rows.length ≠ ⟨#[]⟩ := by
  unfold AudOk
  rw [List.length_map]
  constructor
  · rintro ⟨h1, h2, h3⟩
    exact ⟨h1, h3⟩
  · rintro ⟨h1, h3⟩
    refine ⟨h1, fun j hj => ?_, h3⟩
    obtain ⟨a, b⟩ := (readOk_at hj).1 (hk j hj)
    unfold RowOk
    have e1 : rowAt k (rows.map (lnL k)) j = rows[j] := by
      rw [rowAt_eq (by simpa using hj), List.getElem_map]
      have := a.2
      rw [show ((j + 1 : Nat) : Int) = (j : Int) + 1 by omega]
      exact this
    rw [e1]
    refine ⟨four_row a.1, fun z z' h0 hz hz' => ?_⟩
    rw [List.getElem?_map, List.getElem?_eq_getElem (by omega)] at hz
    rw [List.getElem?_map, List.getElem?_eq_getElem hj] at hz'
    cases hz
    cases hz'
    exact b h0

theorem f29 {m : Md} {H : Hp} {k : Int} {v : Value} {rows : List ByteArray} {head : ByteArray} (hl : SlS H v rows) (hle : rows.length ≤ 1048576) (hz : ∀ x ∈ rows, x.size ≤ 1048576) (hw : Wr m H) : Fun EE m 29 [.int .i64 k, v, .string head] H fun r H' => ARd H k rows head r H' := by
  refine fun_f rfl rfl k29 (by simp [c29]) ?_
  have p0 : H <+: H ++ [[]] := List.prefix_append _ _
  have s0 : SlLn (H ++ [[]]) (.slice (some ⟨H.length, 0, some 3⟩) 0 (0 * 3)) [] := own_newLn
  have o0 : OwnS H.length (.slice (some ⟨H.length, 0, some 3⟩) 0 (0 * 3)) := .inr ⟨_, _, _, _, rfl, Nat.le_refl _⟩
  generalize hwv : Value.slice (some ⟨H.length, 0, some 3⟩) 0 (0 * 3) = wv0 at s0 o0
  simp only [go_sem, ↓reduceIte, Nat.reduceEqDiff, reduceCtorEq, Nat.reduceAdd, Nat.reduceLeDiff, Nat.reduceMul, c29, fillL, hwv, (hl.pre p0).len]
  refine go_for rows.length (fun i s => H <+: s.H ∧ s.ρ 0 = .val (.int .i64 k) ∧ s.ρ 17 = .val v ∧ s.ρ 18 = .val (.int .i64 rows.length) ∧ s.ρ 2 = .val (.string head) ∧ s.ρ 19 = .val (.int .i64 i) ∧ (∃ wv, s.ρ 8 = .val wv ∧ SlLn s.H wv ((rows.take i).map (lnL k)) ∧ OwnS H.length wv) ∧ ∀ j, j < i → ReadOk k rows j)
    (fun s => H <+: s.H ∧ s.ρ 0 = .val (.int .i64 k) ∧ s.ρ 2 = .val (.string head) ∧ (∃ wv, s.ρ 8 = .val wv ∧ SlLn s.H wv (rows.map (lnL k)) ∧ OwnS H.length wv) ∧ ∀ j, j < rows.length → ReadOk k rows j) ?_ ?_ ?_
  · exact ⟨p0, by simp [upd, ini], by simp [upd, ini], by simp [upd, ini], by simp [upd, ini], by simp [upd], ⟨wv0, by simp [upd], s0, o0⟩, fun j hj => by omega⟩
  · rintro i s hi ⟨kH, k0, k17, k18, k2, k19, ⟨wv, k8, ks, ko⟩, kok⟩
    have kl := hl.pre kH
    have kw := hw.pre kH
    simp only [go_sem, ↓reduceIte, Nat.reduceEqDiff, reduceCtorEq, Nat.reduceAdd, Nat.reduceLeDiff, Nat.reduceMul, k0, k17, k18, k2, k8, k19]
    refine brT.intro (fun c1 => ?_) (fun c1 => ?_) <;> simp only [go_sem, ↓reduceIte, Nat.reduceEqDiff, reduceCtorEq, Nat.reduceAdd, Nat.reduceLeDiff, Nat.reduceMul, k0, k17, k18, k2, k8, k19]
    · have hil : i < rows.length := by have := of_decide_eq_true c1; omega
      have hzi := hz _ (List.getElem_mem hil)
      obtain ⟨id, p, o, ho, hr, hia⟩ := kl.str (List.getElem?_eq_getElem hil)
      have w1 : IntKind.i64.wrap ((i : Int) + 1) = (i : Int) + 1 := wrap64 _ (by omega) (by omega)
      have a64 := fun {m draw t d ts Q} => callT_at (m := m) (draw := draw) (s := t) (d := d) (ts := ts) (Q := Q) (f64 (H := s.H) (k := k) (q := (i : Int) + 1) hzi)
      unfold vLn at a64
      have hno := readOk_at (k := k) hil
      have hlb := lnOk_t (k := k) (q := (i : Int) + 1) (row := rows[i])
      obtain ⟨v2, H2, d1, d2, d3, d4, d5, d6, d7⟩ := ks.oneLn (m := m) (lnL k rows[i]) ko kH.length_le hw (by simp; omega)
      have hp2 := d7 H (Nat.le_refl _) kH
      generalize lnOk k ((i : Int) + 1) rows[i] = b at a64 hlb
      unfold eLn at d1
      simp only [go_sem, ↓reduceIte, Nat.reduceEqDiff, reduceCtorEq, Nat.reduceAdd, Nat.reduceLeDiff, Nat.reduceMul, k0, k17, k18, k2, k8, k19, w1, hia, ho, hr, a64, kw, List.getElem?_toArray, ofV]
      refine go_draw ?_
      cases b with
      | false =>
        simp only [go_sem, ↓reduceIte, Nat.reduceEqDiff, reduceCtorEq, Nat.reduceAdd, Nat.reduceLeDiff, Nat.reduceMul, k0, k17, k18, k2, k8, k19, w1, fillL]
        exact ⟨by rfl, ARd.no hil kok (fun h => by have := hlb.2 (hno.1 h).1; cases this) (FreshS.nil kH)⟩
      | true =>
        have hlok := hlb.1 rfl
        simp only [go_sem, ↓reduceIte, Nat.reduceEqDiff, reduceCtorEq, Nat.reduceAdd, Nat.reduceLeDiff, Nat.reduceMul, k0, k17, k18, k2, k8, k19, w1]
        refine brT.intro (fun c3 => ?_) (fun c3 => ?_) <;> simp only [go_sem, ↓reduceIte, Nat.reduceEqDiff, reduceCtorEq, Nat.reduceAdd, Nat.reduceLeDiff, Nat.reduceMul, c3, k0, k17, k18, k2, k8, k19]
        · have hi0 : 0 < i := by have := of_decide_eq_true c3; omega
          obtain ⟨id', p', o', ho', hr', hp', hia'⟩ := ks.elem (take_map_get (k := k) (i := i) (j := i - 1) (by omega) (by omega))
          unfold En at hr'
          have ho1 : o'[p']? = some (.int .i64 (lnL k (rows[i - 1]'(by omega))).1) := by simpa [eLn] using getElem?_of_take hr' (j := 0) (by omega)
          have w2 : IntKind.i64.wrap ((i : Int) - 1) = ((i - 1 : Nat) : Int) := by rw [wrap64 _ (by omega) (by omega)]; omega
          simp only [go_sem, ↓reduceIte, Nat.reduceEqDiff, reduceCtorEq, Nat.reduceAdd, Nat.reduceLeDiff, Nat.reduceMul, c3, k0, k17, k18, k2, k8, k19, w2, hia', ho', ho1]
          refine ⟨by rfl, ?_⟩
          refine brT.intro (fun c4 => ?_) (fun c4 => ?_) <;> simp only [go_sem, ↓reduceIte, Nat.reduceEqDiff, reduceCtorEq, Nat.reduceAdd, Nat.reduceLeDiff, Nat.reduceMul, k0, k17, k18, k2, k8, k19, w1, fillL]
          · have c4' := of_decide_eq_true c4
            exact ARd.no hil kok (fun h => by have := (hno.1 h).2 hi0; omega) (FreshS.nil kH)
          · have c4' := of_decide_eq_false c4
            rw [d1]
            rotate_left
            · rfl
            · rfl
            · rfl
            simp only [go_sem, ↓reduceIte, Nat.reduceEqDiff, reduceCtorEq, Nat.reduceAdd, Nat.reduceLeDiff, Nat.reduceMul, k0, k17, k18, k2, k8, k19, w1]
            refine ⟨hil, hp2, by simp, ⟨v2, rfl, by rw [take_map_succ hil]; exact d2, d3⟩, fun j hj => ?_⟩
            by_cases e : j = i
            · subst e
              exact hno.2 ⟨hlok, fun _ => by omega⟩
            · exact kok j (by omega)
        · have hi0 : i = 0 := by have := of_decide_eq_false c3; omega
          refine ⟨by rfl, ?_⟩
          rw [d1]
          rotate_left
          · rfl
          · rfl
          · rfl
          simp only [go_sem, ↓reduceIte, Nat.reduceEqDiff, reduceCtorEq, Nat.reduceAdd, Nat.reduceLeDiff, Nat.reduceMul, k0, k17, k18, k2, k8, k19, w1]
          refine ⟨hil, hp2, by simp, ⟨v2, rfl, by rw [take_map_succ hil]; exact d2, d3⟩, fun j hj => ?_⟩
          by_cases e : j = i
          · subst e
            exact hno.2 ⟨hlok, fun h => by omega⟩
          · exact kok j (by omega)
    · have : i = rows.length := by have := of_decide_eq_false c1; omega
      subst this
      rw [List.take_length] at ks
      exact ⟨kH, ⟨wv, rfl, ks, ko⟩, kok⟩
  · rintro s ⟨kH, k0, k2, ⟨wv, k8, ks, ko⟩, kok⟩
    have kw := hw.pre kH
    have hzl : ∀ z ∈ rows.map (lnL k), z.2.2.size ≤ 1048576 := fun z hm => by
      obtain ⟨row, hrow, rfl⟩ := List.mem_map.1 hm
      exact Nat.le_trans (lnL_size k row) (hz row hrow)
    simp only [go_sem, ↓reduceIte, Nat.reduceEqDiff, reduceCtorEq, Nat.reduceAdd, Nat.reduceLeDiff, Nat.reduceMul, k0, k2, k8]
    refine callT_to (fun m' h => f20 (k := k) ks hzl h) rfl kw fun r1 H1 ⟨wv1, e1, q1, q2, q3⟩ => ?_
    subst e1
    have p1 := kH.trans q1
    have key := aud_read kok
    simp only [go_sem, ↓reduceIte, Nat.reduceEqDiff, reduceCtorEq, Nat.reduceAdd, Nat.reduceLeDiff, Nat.reduceMul, List.getElem?_toArray, ofV, k0, k2, k8]
    by_cases hA : AudOk k (rows.map (lnL k))
    · obtain ⟨b1, b2, b3⟩ := aud_yes hA
      rw [List.length_map] at b3
      rw [b1, b3]
      simp only [go_sem, ↓reduceIte, Nat.reduceEqDiff, reduceCtorEq, Nat.reduceAdd, Nat.reduceLeDiff, Nat.reduceMul, k0, k2, k8]
      refine brT.intro (fun q => ?_) (fun q => ?_) <;> simp only [go_sem, ↓reduceIte, Nat.reduceEqDiff, reduceCtorEq, Nat.reduceAdd, Nat.reduceLeDiff, Nat.reduceMul, q, k0, k2, k8]
      · have q' := of_decide_eq_true q
        exact ARd.yes kok ⟨(key.1 hA).2, q', (key.1 hA).1⟩ ⟨p1, ks.pre q1, ko⟩
      · have q' := of_decide_eq_false q
        exact ARd.fin kok (fun h => q' h.2.1) (FreshS.nil p1)
    · obtain ⟨b1, b2, b3⟩ := aud_no hA
      rw [b1, b3]
      simp only [go_sem, ↓reduceIte, Nat.reduceEqDiff, reduceCtorEq, Nat.reduceAdd, Nat.reduceLeDiff, Nat.reduceMul, k0, k2, k8]
      exact ARd.fin kok (fun h => hA (key.2 ⟨h.2.2, h.1⟩)) (FreshS.nil p1)
end Go.Proofs.Ytpdkgbamakileaa.Ev

/- The law AuditRead. -/
namespace Go.Proofs.Ytpdkgbamakileaa.Ev
set_option linter.all false
open Go
set_option maxRecDepth 4000

end Go.Proofs.Ytpdkgbamakileaa.Ev

/- A sealed log that is cut, turned round or read under another key: plain. -/
namespace Go.Proofs.Ytpdkgbamakileaa.Ev
set_option linter.all false
open Go
set_option maxRecDepth 4000

theorem lineP_ne {k q : Int} {z : Ln} (h : sealLine k q z ≠ ⟨#[]⟩) : ∀ x ∈ lineP q z, x ≠ ⟨#[]⟩ := fun x hx e => h (sealLine_no hx e)
theorem list_ne {k q : Int} {z : Ln} (h : sealLine k q z ≠ ⟨#[]⟩) : listB (lineP q z) ≠ ⟨#[]⟩ := fun e => h (by unfold sealLine; rw [e, sealB_no])
/-- A sealed row is read as it was written. -/
theorem row_parts {k q : Int} {z : Ln} (h : sealLine k q z ≠ ⟨#[]⟩) : ptL k (sealLine k q z) = lineP q z := by
  have hl := list_ne h
  unfold sealLine at h ⊢
  unfold ptL inB
  rw [open_seal h]
  show (partsB (listB (lineP q z))).getD [] = _
  rw [parts_list hl]
  rfl
theorem row_line {k q : Int} {z : Ln} (h : sealLine k q z ≠ ⟨#[]⟩) (hz : z.2.2.size ≤ 562949953421311) : lnL k (sealLine k q z) = z := by
  have hp := row_parts h
  have hn := lineP_ne h
  unfold lnL
  rw [hp]
  have e1 : (lineP q z)[1]?.getD ⟨#[]⟩ = numB z.1 := rfl
  have e2 : (lineP q z)[2]?.getD ⟨#[]⟩ = numB z.2.1 := rfl
  have e3 : (lineP q z)[3]?.getD ⟨#[]⟩ = atomB z.2.2 := rfl
  rw [if_pos (show (lineP q z).length = 4 from rfl), e1, e2, e3, num_read (hn _ (by simp [lineP])), num_read (hn _ (by simp [lineP])), atom_read hz (hn _ (by simp [lineP]))]
  rfl
theorem row_ok {k q : Int} {z : Ln} (h : sealLine k q z ≠ ⟨#[]⟩) (hz : z.2.2.size ≤ 562949953421311) : LnOk k q (sealLine k q z) := ⟨by rw [row_parts h]; rfl, by rw [row_line h hz]⟩
theorem sealLine_size (k q : Int) (z : Ln) : (sealLine k q z).size ≤ 900 := by
  unfold sealLine sealB
  split
  · exact okB_size _
  · simp
/-- .. and under no other number. -/
theorem row_seq {k q q' : Int} {z : Ln} (h : sealLine k q z ≠ ⟨#[]⟩) (hq : q ≠ q') : ¬ LnOk k q' (sealLine k q z) := fun h2 => by
  have h3 := (ln_reads h2 (by have := sealLine_size k q z; omega)).1
  rw [row_parts h] at h3
  have hn := lineP_ne h (numB q) (by simp [lineP])
  have e : numB q = numB q' := by
    have := congrArg (fun l => l[0]?) h3
    simpa [lineP] using this
  have r1 := num_read hn
  have r2 := num_read (e ▸ hn)
  rw [← e, r1] at r2
  exact hq (Option.some.inj r2)
/-- .. and under no other key. -/
theorem row_key {k k' q q' : Int} {z : Ln} (h : sealLine k q z ≠ ⟨#[]⟩) (hk : k ≠ k') : ¬ LnOk k' q' (sealLine k q z) := fun h2 => by
  have h4 := (four_open h2.1).1
  unfold sealLine at h h4
  obtain ⟨h5, h6, h7, h8⟩ := sealB_yes h
  have hr : (rdV (rest (sealB k (listB (lineP q z))) 1)).1 = k.toNat := by
    rw [h8, rest_one]
    have hn : ((k.toNat : Nat) : Int) = k := Int.toNat_of_nonneg (by omega)
    have := read_var (n := k.toNat) (x := listB (lineP q z)) (by omega)
    rw [hn] at this
    rw [this]
  rw [openB_ne (by rw [hr]; omega)] at h4
  cases h4
theorem head_inj {k a b : Int} (h : sealHead k a ≠ ⟨#[]⟩) (he : sealHead k a = sealHead k b) : a = b := by
  have hb : sealHead k b ≠ ⟨#[]⟩ := he ▸ h
  unfold sealHead at h hb he
  have la : listB [atomB headB, numB a] ≠ ⟨#[]⟩ := fun e => h (by rw [e, sealB_no])
  have lb : listB [atomB headB, numB b] ≠ ⟨#[]⟩ := fun e => hb (by rw [e, sealB_no])
  have o1 := open_seal h
  have o2 := open_seal hb
  rw [← he, o1] at o2
  have p1 := parts_list la
  have p2 := parts_list lb
  rw [← Option.some.inj o2, p1] at p2
  have e := Option.some.inj p2
  have e2 : numB a = numB b := by
    have := congrArg (fun l => l[1]?) e
    simpa using this
  have na : numB a ≠ ⟨#[]⟩ := by
    cases ht : tOk (numB a) with
    | true => exact tOk_ne ht
    | false => exact absurd (listB_no (x := numB a) (by simp) ht) la
  have r1 := num_read na
  have r2 := num_read (e2 ▸ na)
  rw [← e2, r1] at r2
  exact Option.some.inj r2

theorem read_same {k : Int} {rows rows' : List ByteArray} {j : Nat} (h : rows'[j]? = rows[j]?) (h2 : 0 < j → rows'[j - 1]? = rows[j - 1]?) (hr : ReadOk k rows j) : ReadOk k rows' j := fun row hrow => by
  rw [h] at hrow
  refine ⟨(hr row hrow).1, fun row' hj hrow' => (hr row hrow).2 row' hj ?_⟩
  rw [← h2 hj]
  exact hrow'
theorem rows_get {k : Int} {l : List Ln} {j : Nat} (hj : j < l.length) : (rowsN k l l.length)[j]? = some (sealLine k ((j + 1 : Nat) : Int) l[j]) := by
  unfold rowsN
  rw [List.getElem?_map, List.getElem?_range hj, Option.map_some, rowAt_eq hj]

section
variable {k : Int} {l : List Ln} (h : AudOk k l) (hz : ∀ z ∈ l, z.2.2.size ≤ 562949953421311)
include h hz
theorem aud_ne {j : Nat} (hj : j < l.length) : sealLine k ((j + 1 : Nat) : Int) l[j] ≠ ⟨#[]⟩ := by
  have := (h.2.1 j hj).1
  rwa [rowAt_eq hj] at this
theorem aud_readOk {j : Nat} (hj : j < l.length) : ReadOk k (rowsN k l l.length) j := fun row hrow => by
  rw [rows_get hj] at hrow
  have hrow := Option.some.inj hrow
  subst hrow
  have h1 := aud_ne h hz hj
  refine ⟨by have := row_ok h1 (hz _ (List.getElem_mem hj)); rw [show ((j + 1 : Nat) : Int) = (j : Int) + 1 by omega] at *; exact this, fun row' h0 hrow' => ?_⟩
  rw [rows_get (show j - 1 < l.length by omega)] at hrow'
  have hrow' := Option.some.inj hrow'
  subst hrow'
  rw [row_line h1 (hz _ (List.getElem_mem hj)), row_line (aud_ne h hz (show j - 1 < l.length by omega)) (hz _ (List.getElem_mem _))]
  exact (h.2.1 j hj).2 _ _ h0 (List.getElem?_eq_getElem (by omega)) (List.getElem?_eq_getElem hj)
theorem aud_whole : ArR k (rowsN k l l.length) (sealHead k l.length) l 0 := by
  have hl : (rowsN k l l.length).map (lnL k) = l := by
    refine List.ext_getElem? fun j => ?_
    rw [List.getElem?_map]
    by_cases hj : j < l.length
    · rw [rows_get hj, Option.map_some, row_line (aud_ne h hz hj) (hz _ (List.getElem_mem hj)), List.getElem?_eq_getElem hj]
    · rw [List.getElem?_eq_none (by rw [rowsN_len]; omega), List.getElem?_eq_none (by omega)]
      rfl
  have hlen := rowsN_len k l l.length
  exact .inr ⟨fun j hj => aud_readOk h hz (by omega), .inl ⟨⟨by rw [hlen]; exact h.2.2, by rw [hlen], by rw [hlen]; exact h.1⟩, hl.symm, rfl⟩⟩
theorem aud_cut {n : Nat} (hn : n < l.length) : ArR k ((rowsN k l l.length).take n) (sealHead k l.length) [] (-1) := by
  have hlen := rowsN_len k l l.length
  have hl2 : ((rowsN k l l.length).take n).length = n := by rw [List.length_take]; omega
  refine .inr ⟨fun j hj => read_same (rows := rowsN k l l.length) ?_ (fun h0 => ?_) (aud_readOk h hz (by omega)), .inr ⟨fun hf => ?_, rfl, rfl⟩⟩
  · rw [List.getElem?_take, if_pos (by omega)]
  · rw [List.getElem?_take, if_pos (by omega)]
  · obtain ⟨f1, f2, _⟩ := hf
    rw [hl2] at f1 f2
    have := head_inj f1 f2
    omega
theorem aud_gone {n : Nat} (hn : n + 1 < l.length) : ArR k ((rowsN k l l.length).take n ++ (rowsN k l l.length).drop (n + 1)) (sealHead k l.length) [] ((n : Int) + 1) := by
  have hlen := rowsN_len k l l.length
  have hl2 : ((rowsN k l l.length).take n).length = n := by rw [List.length_take]; omega
  have g : ∀ j, j < n → ((rowsN k l l.length).take n ++ (rowsN k l l.length).drop (n + 1))[j]? = (rowsN k l l.length)[j]? := fun j hj => by
    rw [List.getElem?_append_left (by omega), List.getElem?_take, if_pos hj]
  refine .inl ⟨n, by rw [List.length_append, List.length_drop]; omega, fun j hj => read_same (rows := rowsN k l l.length) (g j hj) (fun h0 => g (j - 1) (by omega)) (aud_readOk h hz (by omega)), fun hr => ?_, rfl, rfl⟩
  have e : ((rowsN k l l.length).take n ++ (rowsN k l l.length).drop (n + 1))[n]? = some (sealLine k ((n + 1 + 1 : Nat) : Int) l[n + 1]) := by
    rw [List.getElem?_append_right (by omega), hl2, Nat.sub_self, List.getElem?_drop]
    exact rows_get hn
  exact row_seq (aud_ne h hz hn) (by omega) (hr _ e).1
theorem aud_last {n : Nat} (hn : n + 1 = l.length) : ArR k ((rowsN k l l.length).take n ++ (rowsN k l l.length).drop (n + 1)) (sealHead k l.length) [] (-1) := by
  rw [List.drop_of_length_le (by rw [rowsN_len]; omega), List.append_nil]
  exact aud_cut h hz (by omega)
theorem aud_twice {n : Nat} (hn : n < l.length) : ArR k (rowsN k l l.length ++ [sealLine k ((n + 1 : Nat) : Int) l[n]]) (sealHead k l.length) [] ((l.length : Int) + 1) := by
  have hlen := rowsN_len k l l.length
  have g : ∀ j, j < l.length → (rowsN k l l.length ++ [sealLine k ((n + 1 : Nat) : Int) l[n]])[j]? = (rowsN k l l.length)[j]? := fun j hj => by
    rw [List.getElem?_append_left (by omega)]
  refine .inl ⟨l.length, by rw [List.length_append, hlen]; simp, fun j hj => read_same (rows := rowsN k l l.length) (g j hj) (fun h0 => g (j - 1) (by omega)) (aud_readOk h hz hj), fun hr => ?_, rfl, rfl⟩
  have e : (rowsN k l l.length ++ [sealLine k ((n + 1 : Nat) : Int) l[n]])[l.length]? = some (sealLine k ((n + 1 : Nat) : Int) l[n]) := by
    rw [List.getElem?_append_right (by omega), hlen, Nat.sub_self]
    rfl
  exact row_seq (aud_ne h hz hn) (by omega) (hr _ e).1
theorem aud_other (h0 : 0 < l.length) : ArR (k + 1) (rowsN k l l.length) (sealHead k l.length) [] 1 := by
  refine .inl ⟨0, by rw [rowsN_len]; exact h0, fun j hj => by omega, fun hr => ?_, rfl, rfl⟩
  exact row_key (aud_ne h hz h0) (by omega) (hr _ (rows_get h0)).1
theorem aud_key : 1 ≤ k ∧ k ≤ 1000000 := by
  have := sealB_yes (k := k) (t := listB [atomB headB, numB l.length]) h.2.2
  exact ⟨this.1, this.2.1⟩
end
end Go.Proofs.Ytpdkgbamakileaa.Ev

/- Draws of lines and of sealed logs. -/
namespace Go.Proofs.Ytpdkgbamakileaa.Ev
set_option linter.all false
open Go
set_option maxRecDepth 4000

theorem OwnS.mono {N N' : Nat} {v : Value} (h : OwnS N v) (hn : N' ≤ N) : OwnS N' v := by
  rcases h with h | ⟨id, e, ln, cap, h, hid⟩
  · exact .inl h
  · exact .inr ⟨id, e, ln, cap, h, by omega⟩
def LdR (H : Hp) (c : Value) (id : Nat) (r : Value) (H' : Hp) : Prop := ∃ l : List Ln, SlLn H' r l ∧ OwnS H.length r ∧ CX H H' c id ∧ l.length ≤ 6 ∧ ∀ z ∈ l, z.2.2.size ≤ 100
theorem set_sz {l : List Ln} {k : Nat} {z : Ln} (h : ∀ z ∈ l, z.2.2.size ≤ 100) (hz : z.2.2.size ≤ 100) : ∀ y ∈ l.set k z, y.2.2.size ≤ 100 := fun y hy => by
  rcases List.mem_or_eq_of_mem_set hy with h2 | rfl
  · exact h y h2
  · exact hz
theorem f67 {m : Md} {H : Hp} {c : Value} {id : Nat} (hc : Cur H c id) (hw0 : Wr m H) (hw : m.wr id = true) : Fun EE m 67 [c] H fun r H' => LdR H c id r H' := by
  refine fun_f rfl rfl k67 (by simp [c67]) ?_
  have hidl := hc.lt
  have p0 : H <+: H ++ [[]] := List.prefix_append _ _
  have own0 : SlLn (H ++ [[]]) (.slice (some ⟨H.length, 0, some 3⟩) 0 (0 * 3)) [] := own_newLn
  simp only [go_sem, ↓reduceIte, Nat.reduceEqDiff, reduceCtorEq, Nat.reduceAdd, Nat.reduceLeDiff, Nat.reduceMul, c67, fillL]
  refine callD (f69 (hc.pre p0) hw) rfl fun r H1 ⟨n0, e, _, _, _, cs1⟩ => ?_
  subst e
  simp only [go_sem, ↓reduceIte, Nat.reduceEqDiff, reduceCtorEq, Nat.reduceAdd, Nat.reduceLeDiff, Nat.reduceMul]
  refine callD (f69 cs1.1 hw) rfl fun r H2 ⟨k0, e, hk0, hk1, _, cs2⟩ => ?_
  subst e
  obtain ⟨k, rfl⟩ : ∃ k : Nat, k0 = k := ⟨k0.toNat, by omega⟩
  have hk := hk1 (by omega)
  have csA := cs1.trans cs2
  have own2 : SlLn H2 (.slice (some ⟨H.length, 0, some 3⟩) 0 (0 * 3)) [] := own0.cs csA (by simp [idsOf]; omega)
  have cxA : CX H H2 c id := (CX.ofPre hc p0).trans csA.cx
  simp only [go_sem, ↓reduceIte, Nat.reduceEqDiff, reduceCtorEq, Nat.reduceAdd, Nat.reduceLeDiff, Nat.reduceMul]
  refine go_loop (fun n t => t.ρ 0 = .val c ∧ (∃ w : Int, t.ρ 4 = .val (.int .i64 w)) ∧ t.ρ 5 = .val (.int .i64 n) ∧ CX H t.H c id ∧ ∃ wv l, t.ρ 3 = .val wv ∧ SlLn t.H wv l ∧ OwnS H.length wv ∧ (∀ z ∈ l, z.2.2.size ≤ 100) ∧ l.length + n ≤ 6)
    (fun t => t.ρ 0 = .val c ∧ CX H t.H c id ∧ ∃ wv l, t.ρ 3 = .val wv ∧ SlLn t.H wv l ∧ OwnS H.length wv ∧ (∀ z ∈ l, z.2.2.size ≤ 100) ∧ l.length ≤ 6) k ?_ ?_ ?_
  · exact ⟨by simp [upd, ini], ⟨n0, by simp [upd]⟩, by simp [upd], cxA, _, [], by simp [upd], own2, .inr ⟨_, _, _, _, rfl, Nat.le_refl _⟩, by simp, by simp; omega⟩
  · rintro n t ⟨k0, ⟨w, k4⟩, k5, kc, wv, l, k3, ks, ko, kz, kl⟩
    simp only [go_sem, ↓reduceIte, Nat.reduceEqDiff, reduceCtorEq, Nat.reduceAdd, Nat.reduceLeDiff, Nat.reduceMul, k0, k3, k4, k5]
    refine brT.intro (fun q => ?_) (fun q => ?_) <;> simp only [go_sem, ↓reduceIte, Nat.reduceEqDiff, reduceCtorEq, Nat.reduceAdd, Nat.reduceLeDiff, Nat.reduceMul, k0, k3, k4, k5]
    rotate_left
    · exact ⟨kc, wv, l, rfl, ks, ko, kz, by omega⟩
    have hn : 0 < n := by have := of_decide_eq_true q; omega
    refine callD (f69 kc.1 hw) rfl fun r H3 ⟨x3, e, _, _, _, cs3⟩ => ?_
    subst e
    simp only [go_sem, ↓reduceIte, Nat.reduceEqDiff, reduceCtorEq, Nat.reduceAdd, Nat.reduceLeDiff, Nat.reduceMul, k0, k3, k4, k5]
    refine callD (f69 cs3.1 hw) rfl fun r H4 ⟨x4, e, _, _, _, cs4⟩ => ?_
    subst e
    have csB := cs3.trans cs4
    simp only [go_sem, ↓reduceIte, Nat.reduceEqDiff, reduceCtorEq, Nat.reduceAdd, Nat.reduceLeDiff, Nat.reduceMul, k0, k3, k4, k5]
    refine callD (f106 csB.1 (by omega) (by omega) (fun j hj => hw0 j (by have := kc.2.2; have := csB.2.2; omega)) hw) rfl fun r H5 ⟨s5, e, hs5, cs5⟩ => ?_
    subst e
    have csC := csB.trans cs5
    have kc5 := kc.trans csC.cx
    have s5' : SlLn H5 wv l := ks.cs csC (fun h => by have := own_geD ko id h; omega)
    obtain ⟨v2, H6, e1, e2, e3, e4, e5, e6, e7⟩ := s5'.oneLn (m := m) (IntKind.i64.wrap (w + x3), x4, s5) ko kc5.2.2 hw0 (by omega)
    unfold eLn at e1
    have kc6 : CX H H6 c id := kc5.own hidl (fun j hj => e4 j (by have := kc5.2.2; omega) (fun h => by have := own_geD ko j h; omega)) e5
    simp only [go_sem, ↓reduceIte, Nat.reduceEqDiff, reduceCtorEq, Nat.reduceAdd, Nat.reduceLeDiff, Nat.reduceMul, k0, k3, k4, k5, buildK, fillL, exps]
    rw [e1]
    rotate_left
    · rfl
    · rfl
    · rfl
    simp only [go_sem, ↓reduceIte, Nat.reduceEqDiff, reduceCtorEq, Nat.reduceAdd, Nat.reduceLeDiff, Nat.reduceMul, k0, k3, k4, k5, wrap64 ((n : Int) - 1) (by omega) (by omega)]
    refine ⟨n - 1, by omega, ⟨_, rfl⟩, by congr 2; omega, kc6, v2, _, rfl, e2, e3, fun z hz => ?_, by simp; omega⟩
    rcases List.mem_append.1 hz with h | h
    · exact kz z h
    · rw [List.mem_singleton] at h; subst h; show s5.size ≤ 100; omega
  · rintro t ⟨k0, kc, wv, l, k3, ks, ko, kz, kl⟩
    have n0 : H.length ≤ t.H.length := kc.2.2
    simp only [go_sem, ↓reduceIte, Nat.reduceEqDiff, reduceCtorEq, Nat.reduceAdd, Nat.reduceLeDiff, Nat.reduceMul, k0, k3, ks.len]
    have done : LdR H c id wv t.H := ⟨l, ks, ko, kc, kl, kz⟩
    cases q : decide ((l.length : Int) > 0) <;> simp only [go_sem, ↓reduceIte, Nat.reduceEqDiff, reduceCtorEq, Nat.reduceAdd, Nat.reduceLeDiff, Nat.reduceMul, k0, k3, q]
    · exact done
    have hl0 : 0 < l.length := by have := of_decide_eq_true q; omega
    refine callD (f68 kc.1 hw) rfl fun r H3 ⟨b3, e, cs3⟩ => ?_
    subst e
    have kc3 := kc.trans cs3.cx
    have s3 : SlLn H3 wv l := ks.cs cs3 (fun h => by have := own_geD ko id h; omega)
    simp only [go_sem, ↓reduceIte, Nat.reduceEqDiff, reduceCtorEq, Nat.reduceAdd, Nat.reduceLeDiff, Nat.reduceMul, k0, k3]
    refine brT.intro (fun q2 => ?_) (fun q2 => ?_) <;> simp only [go_sem, ↓reduceIte, Nat.reduceEqDiff, reduceCtorEq, Nat.reduceAdd, Nat.reduceLeDiff, Nat.reduceMul, k0, k3, s3.len]
    rotate_left
    · exact ⟨l, s3, ko, kc3, kl, kz⟩
    refine callD (f69 kc3.1 hw) rfl fun r H4 ⟨x4, e, hx0, hx1, _, cs4⟩ => ?_
    subst e
    obtain ⟨k, rfl⟩ : ∃ k : Nat, x4 = k := ⟨x4.toNat, by omega⟩
    have hk : k < l.length := by have := hx1 (by omega); omega
    have kc4 := kc3.trans cs4.cx
    have s4 : SlLn H4 wv l := s3.cs cs4 (fun h => by have := own_geD ko id h; omega)
    simp only [go_sem, ↓reduceIte, Nat.reduceEqDiff, reduceCtorEq, Nat.reduceAdd, Nat.reduceLeDiff, Nat.reduceMul, k0, k3]
    refine callD (f69 kc4.1 hw) rfl fun r H5 ⟨x5, e, _, _, _, cs5⟩ => ?_
    subst e
    have kc5 := kc4.trans cs5.cx
    have s5 : SlLn H5 wv l := s4.cs cs5 (fun h => by have := own_geD ko id h; omega)
    have n5 : H.length ≤ H5.length := kc5.2.2
    have fin : ∀ (Ha : Hp) (z : Ln) (j : Nat) (x : Value), SlLn Ha wv l → CX H Ha c id → (eLn l[k]).set j x = eLn z → j < 3 → z.2.2.size ≤ 100 → ∀ id2 p o, Ha[id2]? = some o → p + 3 ≤ o.length → idsOf wv = [id2] → En eLn l[k] ((o.drop p).take 3) → (∀ a cs, cs.length = 3 → En eLn a cs → SlLn (Ha.set id2 (spl o p cs)) wv (l.set k a)) → LdR H c id wv (Ha.set id2 (spl o (p + j) [x])) := fun Ha z j x hsl hcx hz hj hzs id2 p o ho hp hid hel hst => by
      rw [spl_one hel hj hp, hz]
      have hN : H.length ≤ id2 := own_geD ko id2 (by rw [hid]; simp)
      exact ⟨l.set k z, hst z _ rfl rfl, ko, hcx.own hidl (fun j hj => List.getElem?_set_ne (by omega)) (by simp), by simp; omega, set_sz kz hzs⟩
    have hzk := kz _ (List.getElem_mem hk)
    have zb : ∀ {Ha : Hp} {id2 : Nat}, idsOf wv = [id2] → m.wr id2 = true := fun hid => hw0 _ (own_geD ko _ (by rw [hid]; simp))
    simp only [go_sem, ↓reduceIte, Nat.reduceEqDiff, reduceCtorEq, Nat.reduceAdd, Nat.reduceLeDiff, Nat.reduceMul, k0, k3]
    refine brT.intro (fun q3 => ?_) (fun q3 => ?_) <;> simp only [go_sem, ↓reduceIte, Nat.reduceEqDiff, reduceCtorEq, Nat.reduceAdd, Nat.reduceLeDiff, Nat.reduceMul, k0, k3, fillL]
    · have hl3 := sl_ints (H := H5) [-1, 0, 90] (by simp)
      have pn := List.prefix_append H5 [[(-1 : Int), 0, 90].map (Value.int .i64)]
      have kcn := kc5.trans (CX.ofPre kc5.1 pn)
      have s6 := s5.pre pn
      refine callD (f66 kcn.1 hw hl3 (by simp) (by simp [idsOf]; omega)) rfl fun r H8 ⟨y, _, e, cs8⟩ => ?_
      subst e
      have s8 : SlLn H8 wv l := s6.cs cs8 (fun h => by have := own_geD ko id h; omega)
      obtain ⟨id2, p, o, ho, hp, hid, hel, hia, hst⟩ := s8.both hk
      have hp1 : p + 1 ≤ o.length := by omega
      have wid := zb (Ha := H8) hid
      simp only [go_sem, ↓reduceIte, Nat.reduceEqDiff, reduceCtorEq, Nat.reduceAdd, Nat.reduceLeDiff, Nat.reduceMul, k0, k3, hia, ho, hp1, wid]
      exact fin H8 (y, l[k].2.1, l[k].2.2) 0 (.int .i64 y) s8 (kcn.trans cs8.cx) rfl (by omega) hzk id2 p o ho hp hid hel hst
    refine brT.intro (fun q4 => ?_) (fun q4 => ?_) <;> simp only [go_sem, ↓reduceIte, Nat.reduceEqDiff, reduceCtorEq, Nat.reduceAdd, Nat.reduceLeDiff, Nat.reduceMul, k0, k3, fillL]
    · obtain ⟨id2, p, o, ho, hp, hid, hel, hia, hst⟩ := s5.both hk
      have hp1 : p + 1 + 1 ≤ o.length := by omega
      have wid := zb (Ha := H5) hid
      simp only [go_sem, ↓reduceIte, Nat.reduceEqDiff, reduceCtorEq, Nat.reduceAdd, Nat.reduceLeDiff, Nat.reduceMul, k0, k3, hia, ho, hp1, wid]
      exact fin H5 (l[k].1, -1, l[k].2.2) 1 (.int .i64 (-1)) s5 kc5 rfl (by omega) hzk id2 p o ho hp hid hel hst
    have p5 : H5 <+: H5 ++ [[]] := List.prefix_append _ _
    have own5 : SlN (H5 ++ [[]]) (.slice (some ⟨H5.length, 0, some 1⟩) 0 (0 * 1)) [] := own_newN
    have kc6 := kc5.trans (CX.ofPre kc5.1 p5)
    have s6 := s5.pre p5
    refine callD (f69 kc6.1 hw) rfl fun r H7 ⟨x7, e, h70, h71, _, cs7⟩ => ?_
    subst e
    obtain ⟨x7, rfl⟩ : ∃ x' : Nat, x7 = x' := ⟨x7.toNat, by omega⟩
    have hx7 := h71 (by omega)
    have kc7 := kc6.trans cs7.cx
    have s7 : SlLn H7 wv l := s6.cs cs7 (fun h => by have := own_geD ko id h; omega)
    have own7 : SlN H7 (.slice (some ⟨H5.length, 0, some 1⟩) 0 (0 * 1)) [] := own5.cs cs7 (by simp [idsOf]; omega)
    have n7 : H7.length = H5.length + 1 := by have := cs7.2.2; rw [List.length_append] at this; exact this
    simp only [go_sem, ↓reduceIte, Nat.reduceEqDiff, reduceCtorEq, Nat.reduceAdd, Nat.reduceLeDiff, Nat.reduceMul, k0, k3, wrap64 (40 + (x7 : Int)) (by omega) (by omega)]
    refine go_loop (fun n t' => t'.ρ 3 = .val wv ∧ t'.ρ 6 = .val (.int .i64 k) ∧ t'.ρ 8 = .val (.int .i64 (40 + (x7 : Int))) ∧ CX H t'.H c id ∧ SlLn t'.H wv l ∧ H5.length ≤ t'.H.length ∧ ∃ wb lb, t'.ρ 7 = .val wb ∧ SlN t'.H wb lb ∧ OwnS H5.length wb ∧ (∀ b ∈ lb, b < 256) ∧ lb.length ≤ 40 + x7 ∧ n = 40 + x7 - lb.length)
      (fun t' => t'.ρ 3 = .val wv ∧ t'.ρ 6 = .val (.int .i64 k) ∧ CX H t'.H c id ∧ SlLn t'.H wv l ∧ ∃ wb lb, t'.ρ 7 = .val wb ∧ SlN t'.H wb lb ∧ (∀ b ∈ lb, b < 256) ∧ lb.length ≤ 41) (40 + x7) ?_ ?_ ?_
    · exact ⟨by simp [upd, k3], by simp [upd], by simp [upd], kc7, s7, by show H5.length ≤ H7.length; omega, _, [], by simp [upd], own7, .inr ⟨_, _, _, _, rfl, Nat.le_refl _⟩, by simp, by simp, by simp⟩
    · rintro n t' ⟨j3, j6, j8, jc, js, jn, wb, lb, j7, jb, jbo, jbs, jbl, rfl⟩
      simp only [go_sem, ↓reduceIte, Nat.reduceEqDiff, reduceCtorEq, Nat.reduceAdd, Nat.reduceLeDiff, Nat.reduceMul, j3, j6, j7, j8, jb.len]
      refine brT.intro (fun q => ?_) (fun q => ?_) <;> simp only [go_sem, ↓reduceIte, Nat.reduceEqDiff, reduceCtorEq, Nat.reduceAdd, Nat.reduceLeDiff, Nat.reduceMul, j3, j6, j7, j8]
      · have hlt : lb.length < 40 + x7 := by have := of_decide_eq_true q; omega
        obtain ⟨v2, H9, e1, e2, e3, e4, e5, e6, e7⟩ := jb.oneN (m := m) 65 jbo jn (fun j hj => hw0 j (by omega)) (by omega)
        rw [e1]
        rotate_left
        · rfl
        · rfl
        · rfl
        simp only [go_sem, ↓reduceIte, Nat.reduceEqDiff, reduceCtorEq, Nat.reduceAdd, Nat.reduceLeDiff, Nat.reduceMul, j3, j6, j7, j8]
        have d9 : ∀ j ∈ idsOf wv, j ∉ idsOf wb := fun j hj h => by have := s5.ids j hj; have := own_geD jbo j h; omega
        refine ⟨40 + x7 - (lb ++ [65]).length, by simp; omega, jc.own hidl (fun j hj => e4 j (by omega) (fun h => by have := own_geD jbo j h; omega)) e5, js.frame (fun _ _ _ h => h) (fun j off e len cap hv => e4 j (js.ids j (by rw [hv]; simp [idsOf])) (d9 j (by rw [hv]; simp [idsOf]))), by omega, v2, _, rfl, e2, e3, fun b hb => ?_, by simp; omega, rfl⟩
        rcases List.mem_append.1 hb with h | h
        · exact jbs b h
        · rw [List.mem_singleton] at h; subst h; omega
      · exact ⟨jc, js, wb, lb, rfl, jb, jbs, by omega⟩
    · rintro t' ⟨j3, j6, jc, js, wb, lb, j7, jb, jbs, jbl⟩
      have hb := jb.b2s jbs
      obtain ⟨id2, p, o, ho, hp, hid, hel, hia, hst⟩ := js.both hk
      have hp1 : p + 2 + 1 ≤ o.length := by omega
      have wid := zb (Ha := t'.H) hid
      simp only [go_sem, ↓reduceIte, Nat.reduceEqDiff, reduceCtorEq, Nat.reduceAdd, Nat.reduceLeDiff, Nat.reduceMul, j3, j6, j7]
      rw [hb]
      rotate_left
      · rfl
      · rfl
      simp only [go_sem, ↓reduceIte, Nat.reduceEqDiff, reduceCtorEq, Nat.reduceAdd, Nat.reduceLeDiff, Nat.reduceMul, j3, j6, j7, hia, ho, hp1, wid]
      exact fin t'.H (l[k].1, l[k].2.1, strOf lb) 2 (.string (strOf lb)) js jc rfl (by omega) (by show (strOf lb).size ≤ 100; rw [strOf_size]; omega) id2 p o ho hp hid hel hst

theorem f32 {m : Md} {H : Hp} {v : Value} {cl : List Int} (hv : SlU H v cl) (hw : Wr m H) : Fun EE m 32 [v] H fun r H' => ∃ k u l, r = .tuple #[.int .i64 k, u] ∧ SlLn H' u l ∧ H <+: H' ∧ l.length ≤ 6 ∧ ∀ z ∈ l, z.2.2.size ≤ 100 := by
  refine fun_f rfl rfl k32 (by simp [c32]) ?_
  simp only [go_sem, ↓reduceIte, Nat.reduceEqDiff, reduceCtorEq, Nat.reduceAdd, Nat.reduceLeDiff, Nat.reduceMul, c32, fillL]
  refine callD (f65 hv) rfl fun r H1 ⟨c1, p1, n1⟩ => ?_
  have w1 := hw.pre p1
  have wid := hw H.length (Nat.le_refl _)
  have hl4 := sl_ints (H := H1) [1, 7, 300, 0] (by simp)
  have pn := List.prefix_append H1 [[(1 : Int), 7, 300, 0].map (Value.int .i64)]
  have c2 := c1.pre pn
  simp only [go_sem, ↓reduceIte, Nat.reduceEqDiff, reduceCtorEq, Nat.reduceAdd, Nat.reduceLeDiff, Nat.reduceMul, fillL]
  refine callD (f66 c2 wid hl4 (by simp) (by simp [idsOf]; omega)) rfl fun r2 H2 ⟨k, _, e, cs2⟩ => ?_
  subst e
  have cx2 : CX H1 H2 r H.length := (CX.ofPre c1 pn).trans cs2.cx
  simp only [go_sem, ↓reduceIte, Nat.reduceEqDiff, reduceCtorEq, Nat.reduceAdd, Nat.reduceLeDiff, Nat.reduceMul]
  refine callD (f67 cx2.1 (fun j hj => w1 j (by have := cx2.2.2; omega)) wid) rfl fun r3 H3 ⟨l, s3, o3, cx3, hl, hz⟩ => ?_
  simp only [go_sem, ↓reduceIte, Nat.reduceEqDiff, reduceCtorEq, Nat.reduceAdd, Nat.reduceLeDiff, Nat.reduceMul, s3.vc]
  exact ⟨k, _, l, rfl, s3, (cx2.trans cx3).pre p1 (Nat.le_refl _), hl, hz⟩

theorem rowAt_size (k : Int) (l : List Ln) (j : Nat) : (rowAt k l j).size ≤ 900 := by
  unfold rowAt
  split
  · unfold sealLine sealB
    split
    · exact okB_size _
    · simp
  · simp [ByteArray.size]
theorem audL_size {k : Int} {l : List Ln} : ∀ x ∈ audL k l, x.size ≤ 900 := fun x hx => by
  unfold audL at hx
  split at hx
  · obtain ⟨j, _, rfl⟩ := List.mem_map.1 hx
    exact rowAt_size k l j
  · simp at hx
def RdR (H : Hp) (r : Value) (H' : Hp) : Prop := ∃ k u l hd, r = .tuple #[.int .i64 k, u, .string hd] ∧ SlS H' u l ∧ H <+: H' ∧ l.length ≤ 30 ∧ ∀ z ∈ l, z.size ≤ 1000
theorem set_szS {l : List ByteArray} {k : Nat} {z : ByteArray} (h : ∀ z ∈ l, z.size ≤ 1000) (hz : z.size ≤ 1000) : ∀ y ∈ l.set k z, y.size ≤ 1000 := fun y hy => by
  rcases List.mem_or_eq_of_mem_set hy with h2 | rfl
  · exact h y h2
  · exact hz
theorem zi5 : zeros 5 [Value.int .i64 0] = [.int .i64 0, .int .i64 0, .int .i64 0, .int .i64 0, .int .i64 0] := rfl
theorem f33 {m : Md} {H : Hp} {v : Value} {cl : List Int} (hv : SlU H v cl) (hw : Wr m H) : Fun EE m 33 [v] H fun r H' => RdR H r H' := by
  refine fun_f rfl rfl k33 (by simp [c33]) ?_
  simp only [go_sem, ↓reduceIte, Nat.reduceEqDiff, reduceCtorEq, Nat.reduceAdd, Nat.reduceLeDiff, Nat.reduceMul, c33]
  refine callD (f65 hv) rfl fun r H1 ⟨c1, p1, n1⟩ => ?_
  have w1 := hw.pre p1
  have wid := hw H.length (Nat.le_refl _)
  simp only [go_sem, ↓reduceIte, Nat.reduceEqDiff, reduceCtorEq, Nat.reduceAdd, Nat.reduceLeDiff, Nat.reduceMul]
  refine callD (f67 c1 w1 wid) rfl fun r2 H2 ⟨l0, s2, o2, cx2, hl2, hz2⟩ => ?_
  have w2 : Wr m H2 := fun j hj => w1 j (by have := cx2.2.2; omega)
  simp only [go_sem, ↓reduceIte, Nat.reduceEqDiff, reduceCtorEq, Nat.reduceAdd, Nat.reduceLeDiff, Nat.reduceMul]
  refine callT_to (fun m' h => f18 (k := 7) s2 (fun z hz => by have := hz2 z hz; omega) h) rfl w2 fun r3 H3 ⟨u, e, p3, s3, o3⟩ => ?_
  subst e
  have hal := audL_len (k := 7) (l := l0)
  have haz := audL_size (k := 7) (l := l0)
  generalize audL 7 l0 = A at *
  generalize audH 7 l0 = hd at *
  have cx3 : CX H1 H3 r H.length := cx2.trans (CX.ofPre cx2.1 p3)
  have n3 : H1.length ≤ H3.length := cx3.2.2
  have hl4 := sl_ints (H := H3) [7, 7, 7, 7, 8] (by simp)
  have pn := List.prefix_append H3 [[(7 : Int), 7, 7, 7, 8].map (Value.int .i64)]
  have cx4 := cx3.trans (CX.ofPre cx3.1 pn)
  have s4 := s3.pre pn
  simp only [go_sem, ↓reduceIte, Nat.reduceEqDiff, reduceCtorEq, Nat.reduceAdd, Nat.reduceLeDiff, Nat.reduceMul, List.getElem?_toArray, ofV, s3.vc, fillL, zi5]
  refine callD (f66 cx4.1 wid hl4 (by simp) (by simp [idsOf]; omega)) rfl fun r5 H5 ⟨k, _, e, cs5⟩ => ?_
  subst e
  have cx5 := cx4.trans cs5.cx
  have oA : OwnS H1.length u := o3.mono (by have := cx2.2.2; omega)
  have notin : H.length ∉ idsOf u := fun h => by have := own_geD oA _ h; omega
  have s5 : SlS H5 u A := s4.cs cs5 notin
  have mk : ∀ (H' : Hp) (u' : Value) (l' : List ByteArray) (hd' : ByteArray), SlS H' u' l' → CX H1 H' r H.length → l'.length ≤ 30 → (∀ z ∈ l', z.size ≤ 1000) → RdR H (.tuple #[.int .i64 k, u', .string hd']) H' := fun H' u' l' hd' h1 h2 h3 h4 => ⟨k, u', l', hd', rfl, h1, h2.pre p1 (Nat.le_refl _), h3, h4⟩
  have haz' : ∀ z ∈ A, z.size ≤ 1000 := fun z hz => by have := haz z hz; omega
  simp only [go_sem, ↓reduceIte, Nat.reduceEqDiff, reduceCtorEq, Nat.reduceAdd, Nat.reduceLeDiff, Nat.reduceMul, s5.len, s5.vc]
  cases h0 : decide ((A.length : Int) = 0) <;> simp only [go_sem, ↓reduceIte, Nat.reduceEqDiff, reduceCtorEq, Nat.reduceAdd, Nat.reduceLeDiff, Nat.reduceMul, s5.vc, h0]
  rotate_left
  · exact mk _ _ _ _ s5 cx5 (by omega) haz'
  have hA0 : 0 < A.length := by have := of_decide_eq_false h0; omega
  refine callD (f68 cx5.1 wid) rfl fun r6 H6 ⟨b6, e, cs6⟩ => ?_
  subst e
  have cx6 := cx5.trans cs6.cx
  have s6 : SlS H6 u A := s5.cs cs6 notin
  simp only [go_sem, ↓reduceIte, Nat.reduceEqDiff, reduceCtorEq, Nat.reduceAdd, Nat.reduceLeDiff, Nat.reduceMul]
  refine brT.intro (fun q1 => ?_) (fun q1 => ?_) <;> simp only [go_sem, ↓reduceIte, Nat.reduceEqDiff, reduceCtorEq, Nat.reduceAdd, Nat.reduceLeDiff, Nat.reduceMul, s6.vc, s6.len]
  · exact mk _ _ _ _ s6 cx6 (by omega) haz'
  refine callD (f69 cx6.1 wid) rfl fun r7 H7 ⟨x, e, hx0, hx1, _, cs7⟩ => ?_
  subst e
  obtain ⟨x, rfl⟩ : ∃ x' : Nat, x = x' := ⟨x.toNat, by omega⟩
  have hx : x < A.length := by have := hx1 (by omega); omega
  have cx7 := cx6.trans cs7.cx
  have s7 : SlS H7 u A := s6.cs cs7 notin
  simp only [go_sem, ↓reduceIte, Nat.reduceEqDiff, reduceCtorEq, Nat.reduceAdd, Nat.reduceLeDiff, Nat.reduceMul]
  refine callD (f69 cx7.1 wid) rfl fun r8 H8 ⟨y, e, _, _, _, cs8⟩ => ?_
  subst e
  have cx8 := cx7.trans cs8.cx
  have s8 : SlS H8 u A := s7.cs cs8 notin
  have n8 : H1.length ≤ H8.length := cx8.2.2
  have w8 : Wr m H8 := fun j hj => w1 j (by omega)
  obtain ⟨idx, px, ox, hox, hpx, hidx, helx, hiax, hstx⟩ := s8.both hx
  have hgx : ox[px]? = some (.string A[x]) := by
    unfold En eS at helx
    simpa using getElem?_of_take helx (j := 0) (by omega)
  have widx : m.wr idx = true := w1 idx (own_geD oA idx (by rw [hidx]; simp))
  have hAx := haz _ (List.getElem_mem hx)
  have hN : H1.length ≤ idx := own_geD oA idx (by rw [hidx]; simp)
  simp only [go_sem, ↓reduceIte, Nat.reduceEqDiff, reduceCtorEq, Nat.reduceAdd, Nat.reduceLeDiff, Nat.reduceMul]
  refine brT.intro (fun q2 => ?_) (fun q2 => ?_) <;> simp only [go_sem, ↓reduceIte, Nat.reduceEqDiff, reduceCtorEq, Nat.reduceAdd, Nat.reduceLeDiff, Nat.reduceMul]
  · simp only [go_sem, ↓reduceIte, Nat.reduceEqDiff, reduceCtorEq, Nat.reduceAdd, Nat.reduceLeDiff, Nat.reduceMul, hiax, hox, hgx]
    refine callD (f70 cx8.1 (s := A[x]) (by omega) w8 wid) rfl fun r9 H9 ⟨t, e, ht, cs9⟩ => ?_
    subst e
    have s9 : SlS H9 u A := s8.cs cs9 notin
    have cx9 := cx8.trans cs9.cx
    obtain ⟨id2, p, o, ho, hp, hid, hia, hst⟩ := s9.store hx
    have wid2 : m.wr id2 = true := w1 id2 (own_geD oA id2 (by rw [hid]; simp))
    have hN2 : H1.length ≤ id2 := own_geD oA id2 (by rw [hid]; simp)
    simp only [go_sem, ↓reduceIte, Nat.reduceEqDiff, reduceCtorEq, Nat.reduceAdd, Nat.reduceLeDiff, Nat.reduceMul, hia, ho, hp, wid2]
    have s10 := hst t [.string t] rfl rfl
    exact mk _ _ _ _ s10 (cx9.own (by omega) (fun j hj => List.getElem?_set_ne (by omega)) (by simp)) (by simp; omega) (set_szS haz' (by omega))
  refine brT.intro (fun q3 => ?_) (fun q3 => ?_)
  · obtain ⟨v1, t1, o1, i1, sl1⟩ := s8.takeO (i := x) (by omega)
    obtain ⟨v2, sl2, i2, t2⟩ := s8.drop (i := x + 1) (by omega)
    have t2 := t2 H8 A rfl s8
    have e1 : ((x + 1 : Nat) : Int) = (x : Int) + 1 := by omega
    rw [e1] at sl2
    obtain ⟨v3, H9, a1, a2, a3, a4, a5, a6, a7⟩ := t1.join (m := m) (bytes := 16) t2 (fun _ => rfl) (by omega) (o1 _ oA) n8 w1 (by unfold Ev.room; simp; omega) (by unfold Ev.room; simp; omega)
    refine go_draw ?_
    simp only [go_sem, ↓reduceIte, Nat.reduceEqDiff, reduceCtorEq, Nat.reduceAdd, Nat.reduceLeDiff, Nat.reduceMul, sl1, sl2, wrap64 ((x : Int) + 1) (by omega) (by omega)]
    rw [a1]
    rotate_left
    · rfl
    · rfl
    · rfl
    simp only [go_sem, ↓reduceIte, Nat.reduceEqDiff, reduceCtorEq, Nat.reduceAdd, Nat.reduceLeDiff, Nat.reduceMul, a2.vc]
    refine ⟨by rfl, ?_⟩
    refine mk _ _ _ _ a2 (cx8.own (by omega) (fun j hj => a4 j (by omega) (fun h => by have := own_geD oA j (i1 j h); omega)) a5) (by simp; omega) (fun z hz => ?_)
    rcases List.mem_append.1 hz with h | h
    · exact haz' z (List.mem_of_mem_take h)
    · exact haz' z (List.mem_of_mem_drop h)
  simp only [go_sem, ↓reduceIte, Nat.reduceEqDiff, reduceCtorEq, Nat.reduceAdd, Nat.reduceLeDiff, Nat.reduceMul]
  refine brT.intro (fun q4 => ?_) (fun q4 => ?_) <;> simp only [go_sem, ↓reduceIte, Nat.reduceEqDiff, reduceCtorEq, Nat.reduceAdd, Nat.reduceLeDiff, Nat.reduceMul]
  · obtain ⟨v1, t1, o1, i1, sl1⟩ := s8.takeO (i := x) (by omega)
    simp only [go_sem, ↓reduceIte, Nat.reduceEqDiff, reduceCtorEq, Nat.reduceAdd, Nat.reduceLeDiff, Nat.reduceMul, sl1, t1.vc]
    exact mk _ _ _ _ t1 cx8 (by simp; omega) (fun z hz => haz' z (List.mem_of_mem_take hz))
  refine brT.intro (fun q5 => ?_) (fun q5 => ?_) <;> simp only [go_sem, ↓reduceIte, Nat.reduceEqDiff, reduceCtorEq, Nat.reduceAdd, Nat.reduceLeDiff, Nat.reduceMul]
  · obtain ⟨id0, p0', o0, ho0, hp0, hid0, hel0, hia0, hst0⟩ := s8.both hA0
    have hg0 : o0[p0']? = some (.string A[0]) := by
      unfold En eS at hel0
      simpa using getElem?_of_take hel0 (j := 0) (by omega)
    have hia0' : ∀ (s : St) (x : X), exv s.ρ x = some u → iadrK s 1 x (.c (.int .i64 0)) = some (.val (.pointer (some ⟨id0, p0', some o0.length⟩)), s) := fun s x hx => hia0 s x _ hx rfl
    have wid0 : m.wr id0 = true := w1 id0 (own_geD oA id0 (by rw [hid0]; simp))
    have hN0 : H1.length ≤ id0 := own_geD oA id0 (by rw [hid0]; simp)
    have s9 := hst0 A[x] [.string A[x]] rfl rfl
    have hx' : x < (A.set 0 A[x]).length := by simp; exact hx
    obtain ⟨id3, p3, o3', ho3, hp3, hid3, hia3, hst3⟩ := s9.store hx'
    have s10 := hst3 A[0] [.string A[0]] rfl rfl
    have wid3 : m.wr id3 = true := w1 id3 (own_geD oA id3 (by rw [hid3]; simp))
    have hN3 : H1.length ≤ id3 := own_geD oA id3 (by rw [hid3]; simp)
    have he1 := hiax { ρ := fun t => if t = 0 then .val u else .val (.int .i64 x), gn := 0, H := [] } (.t 0) (.t 1) rfl rfl
    have he2 := hia3 { ρ := fun t => if t = 0 then .val u else .val (.int .i64 x), gn := 0, H := [] } (.t 0) (.t 1) rfl rfl
    rw [he1] at he2
    simp only [Option.some.injEq, Prod.mk.injEq, FV.val.injEq, Value.pointer.injEq, Addr.mk.injEq, and_true] at he2
    obtain ⟨rfl, rfl, hlen⟩ := he2
    have hlen' : (o3'.length = ox.length) = True := by simp [hlen]
    simp only [go_sem, ↓reduceIte, Nat.reduceEqDiff, reduceCtorEq, Nat.reduceAdd, Nat.reduceLeDiff, Nat.reduceMul, hia0', ho0, hg0, hiax, hox, hgx, hp0, wid0, ho3, hp3, hlen']
    simp only [go_sem, ↓reduceIte, Nat.reduceEqDiff, reduceCtorEq, Nat.reduceAdd, Nat.reduceLeDiff, Nat.reduceMul, widx]
    refine mk _ _ _ _ s10 (cx8.own (by omega) (fun j hj => by rw [List.getElem?_set_ne (by omega), List.getElem?_set_ne (by omega)]) (by simp)) (by simp; omega) (set_szS (set_szS haz' (by omega)) (haz' _ (List.getElem_mem hA0)))
  refine brT.intro (fun q6 => ?_) (fun q6 => ?_) <;> simp only [go_sem, ↓reduceIte, Nat.reduceEqDiff, reduceCtorEq, Nat.reduceAdd, Nat.reduceLeDiff, Nat.reduceMul]
  · have a11 := fun {m draw t d ts Q} => callT_at (m := m) (draw := draw) (s := t) (d := d) (ts := ts) (Q := Q) (f11 (H := H8) (k := 7) (n := (x : Int)))
    simp only [go_sem, ↓reduceIte, Nat.reduceEqDiff, reduceCtorEq, Nat.reduceAdd, Nat.reduceLeDiff, Nat.reduceMul, a11, w8, s8.vc]
    exact mk _ _ _ _ s8 cx8 (by omega) haz'
  · obtain ⟨v3, H9, a1, a2, a3, a4, a5, a6, a7⟩ := s8.oneS (m := m) A[x] oA n8 w1 (by omega)
    simp only [go_sem, ↓reduceIte, Nat.reduceEqDiff, reduceCtorEq, Nat.reduceAdd, Nat.reduceLeDiff, Nat.reduceMul, hiax, hox, hgx]
    rw [a1]
    rotate_left
    · rfl
    · rfl
    · rfl
    simp only [go_sem, ↓reduceIte, Nat.reduceEqDiff, reduceCtorEq, Nat.reduceAdd, Nat.reduceLeDiff, Nat.reduceMul, a2.vc]
    refine mk _ _ _ _ a2 (cx8.own (by omega) (fun j hj => a4 j (by omega) (fun h => by have := own_geD oA j h; omega)) a5) (by simp; omega) (fun z hz => ?_)
    rcases List.mem_append.1 hz with h | h
    · exact haz' z h
    · rw [List.mem_singleton] at h; subst h; exact haz' _ (List.getElem_mem hx)
end Go.Proofs.Ytpdkgbamakileaa.Ev

/- The law Audit. -/
namespace Go.Proofs.Ytpdkgbamakileaa.Ev
set_option linter.all false
open Go
set_option maxRecDepth 4000

theorem rowsN_size {k : Int} {l : List Ln} : ∀ x ∈ rowsN k l l.length, x.size ≤ 900 := fun x hx => by
  obtain ⟨j, _, rfl⟩ := List.mem_map.1 hx
  exact rowAt_size k l j

theorem law7 {m : Md} {H : Hp} {v : Value} {cl : List Int} (hv : SlU H v cl) (hb : ∀ x ∈ cl, (Lit.int .u8 x).wf = true) (hw : Wr m H) : Fun EE m 7 [v] H fun r _ => r = .bool true := by
  refine fun_f rfl rfl k7 (by simp [c7]) ?_
  have hb' : ∀ x ∈ cl, 0 ≤ x ∧ x ≤ 255 := fun x hx => by
    have := hb x hx
    simp [Lit.wf, IntKind.min, IntKind.max, IntKind.signed, IntKind.bits] at this
    omega
  have a31 := fun {m draw t d ts Q} => callT_at (m := m) (draw := draw) (s := t) (d := d) (ts := ts) (Q := Q) (f31 hv)
  have hB : ∀ b : Bool, decide (b = b) = true := fun b => by simp
  have hBi : ∀ b : Int, decide (b = b) = true := fun b => by simp
  have hBs : ∀ b : ByteArray, decide (b = b) = true := fun b => by simp
  simp only [go_sem, ↓reduceIte, Nat.reduceEqDiff, reduceCtorEq, Nat.reduceAdd, Nat.reduceLeDiff, Nat.reduceMul, c7, a31, hw]
  refine brT.intro (fun q0 => ?_) (fun q0 => ?_) <;> simp only [go_sem, ↓reduceIte, Nat.reduceEqDiff, reduceCtorEq, Nat.reduceAdd, Nat.reduceLeDiff, Nat.reduceMul]
  have hcl : cl.length ≤ 1048576 := by have := of_decide_eq_false q0; omega
  refine callD (f32 hv hw) rfl fun r1 H1 ⟨k, u, l, e, s1, p1, hl6, hz⟩ => ?_
  subst e
  have w1 := hw.pre p1
  have hzL : ∀ z ∈ l, z.2.2.size ≤ 1048576 := fun z hz' => by have := hz z hz'; omega
  have hzB : ∀ z ∈ l, z.2.2.size ≤ 562949953421311 := fun z hz' => by have := hz z hz'; omega
  simp only [go_sem, ↓reduceIte, Nat.reduceEqDiff, reduceCtorEq, Nat.reduceAdd, Nat.reduceLeDiff, Nat.reduceMul, List.getElem?_toArray, ofV, s1.vc]
  refine callT_to (fun m' h => f20 (k := k) s1 hzL h) rfl w1 fun r2 H2 ⟨ua, e, p2, s2, o2⟩ => ?_
  subst e
  have w2 := w1.pre p2
  have t2 := s1.pre p2
  simp only [go_sem, ↓reduceIte, Nat.reduceEqDiff, reduceCtorEq, Nat.reduceAdd, Nat.reduceLeDiff, Nat.reduceMul, List.getElem?_toArray, ofV, s2.vc]
  refine callT_to (fun m' h => f18 (k := k) t2 hzL h) rfl w2 fun r3 H3 ⟨ub, e, p3, s3, o3⟩ => ?_
  subst e
  have w3 := w2.pre p3
  have t3 := t2.pre p3
  have a3 := s2.pre p3
  have hv3 := ((hv.pre p1).pre p2).pre p3
  simp only [go_sem, ↓reduceIte, Nat.reduceEqDiff, reduceCtorEq, Nat.reduceAdd, Nat.reduceLeDiff, Nat.reduceMul, List.getElem?_toArray, ofV, s3.vc, beqK, hB, hBs]
  refine callD (f33 hv3 w3) rfl fun r4 H4 ⟨key, u4, rows, hd4, e, s4, p4, hr30, hrz⟩ => ?_
  subst e
  have w4 := w3.pre p4
  simp only [go_sem, ↓reduceIte, Nat.reduceEqDiff, reduceCtorEq, Nat.reduceAdd, Nat.reduceLeDiff, Nat.reduceMul, List.getElem?_toArray, ofV, s4.vc]
  have hrz' : ∀ z ∈ rows, z.size ≤ 1048576 := fun z hz' => by have := hrz z hz'; omega
  refine callT_to (fun m' h => f29 (k := key) (head := hd4) s4 (by omega) hrz' h) rfl w4 fun r5 H5 ⟨w5', n5, l5, e, ⟨p5, s5, o5⟩, b5⟩ => ?_
  subst e
  have w5 := w4.pre p5
  have t5 := s4.pre p5
  simp only [go_sem, ↓reduceIte, Nat.reduceEqDiff, reduceCtorEq, Nat.reduceAdd, Nat.reduceLeDiff, Nat.reduceMul, List.getElem?_toArray, ofV, s5.vc]
  refine callT_to (fun m' h => f27 (k := key) (head := hd4) t5 (by omega) hrz' h) rfl w5 fun r6 H6 ⟨w6', n6, l6, e, ⟨p6, s6, o6⟩, b6⟩ => ?_
  obtain ⟨rfl, rfl⟩ := b6.unique b5
  subst e
  have w6 := w5.pre p6
  have a6 := ((a3.pre p4).pre p5).pre p6
  have t6 := ((t3.pre p4).pre p5).pre p6
  have hv6 := ((hv3.pre p4).pre p5).pre p6
  simp only [go_sem, ↓reduceIte, Nat.reduceEqDiff, reduceCtorEq, Nat.reduceAdd, Nat.reduceLeDiff, Nat.reduceMul, List.getElem?_toArray, ofV, s6.vc, hBi, a6.vc]
  by_cases hA : AudOk k l
  rotate_left
  · obtain ⟨e1, e2, e3⟩ := aud_no hA
    rw [e2] at a6
    have hz0 : decide (((0 : Nat) : Int) = 0) = true := rfl
    simp only [go_sem, ↓reduceIte, Nat.reduceEqDiff, reduceCtorEq, Nat.reduceAdd, Nat.reduceLeDiff, Nat.reduceMul, e1, e2, e3, a6.len, hz0, hBs]
  obtain ⟨e1, e2, e3⟩ := aud_yes hA
  have hlen := rowsN_len k l l.length
  have hsz := rowsN_size (k := k) (l := l)
  have hsz' : ∀ z ∈ rowsN k l l.length, z.size ≤ 1048576 := fun z hz' => by have := hsz z hz'; omega
  obtain ⟨hk0, hk1⟩ := aud_key hA hzB
  rw [e2] at a6
  simp only [go_sem, ↓reduceIte, Nat.reduceEqDiff, reduceCtorEq, Nat.reduceAdd, Nat.reduceLeDiff, Nat.reduceMul, e1, e3, a6.vc]
  have AW := aud_whole hA hzB
  refine callT_to (fun m' h => f29 (k := k) (head := sealHead k l.length) a6 (by omega) hsz' h) rfl w6 fun r7 H7 ⟨w7', n7, l7, e, ⟨p7, s7, o7⟩, b7⟩ => ?_
  obtain ⟨rfl, rfl⟩ := b7.unique AW
  subst e
  have w7 := w6.pre p7
  have a7 := a6.pre p7
  have t7 := t6.pre p7
  have hv7 := hv6.pre p7
  have hd0 : decide ((0 : Int) = 0) = true := rfl
  simp only [go_sem, ↓reduceIte, Nat.reduceEqDiff, reduceCtorEq, Nat.reduceAdd, Nat.reduceLeDiff, Nat.reduceMul, List.getElem?_toArray, ofV, s7.vc, hd0, s7.len, t7.len, hBi]
  refine go_for l7.length (fun i t => t.H = H7 ∧ t.ρ 0 = .val v ∧ t.ρ 3 = .val (.int .i64 k) ∧ t.ρ 4 = .val u ∧ t.ρ 5 = .val ua ∧ t.ρ 6 = .val (.string (sealHead k l7.length)) ∧ t.ρ 18 = .val w7' ∧ t.ρ 20 = .val (.int .i64 i))
    (fun t => t.H = H7 ∧ t.ρ 0 = .val v ∧ t.ρ 3 = .val (.int .i64 k) ∧ t.ρ 5 = .val ua ∧ t.ρ 6 = .val (.string (sealHead k l7.length))) ?_ ?_ ?_
  · exact ⟨rfl, by simp [upd, ini], by simp [upd], by simp [upd], by simp [upd], by simp [upd], by simp [upd], by simp [upd]⟩
  · rintro i t hi ⟨kH, k0, k3, k4, k5, k6, k18, k20⟩
    simp only [go_sem, ↓reduceIte, Nat.reduceEqDiff, reduceCtorEq, Nat.reduceAdd, Nat.reduceLeDiff, Nat.reduceMul, k0, k3, k4, k5, k6, k18, k20, t7.len]
    refine brT.intro (fun q => ?_) (fun q => ?_) <;> simp only [go_sem, ↓reduceIte, Nat.reduceEqDiff, reduceCtorEq, Nat.reduceAdd, Nat.reduceLeDiff, Nat.reduceMul, k0, k3, k4, k5, k6, k18, k20]
    · have hil : i < l7.length := by have := of_decide_eq_true q; omega
      obtain ⟨id, p, o, ho, hr, hp, hia⟩ := t7.elem (List.getElem?_eq_getElem hil)
      obtain ⟨id2, p2', o2', ho2, hr2, hp2, hia2⟩ := s7.elem (List.getElem?_eq_getElem hil)
      unfold En at hr hr2
      refine go_draw ?_
      simp only [go_sem, ↓reduceIte, Nat.reduceEqDiff, reduceCtorEq, Nat.reduceAdd, Nat.reduceLeDiff, Nat.reduceMul, k0, k3, k4, k5, k6, k18, k20, hia, ho, hr, hp, hia2, ho2, hr2, hp2, kH, eLn, hBi, hBs]
      exact ⟨by rfl, by rw [wrap64 ((i : Int) + 1) (by omega) (by omega)]; exact ⟨hil, by simp⟩⟩
    · exact kH
  · rintro t ⟨kH, k0, k3, k5, k6⟩
    simp only [go_sem, ↓reduceIte, Nat.reduceEqDiff, reduceCtorEq, Nat.reduceAdd, Nat.reduceLeDiff, Nat.reduceMul, k0, k3, k5, k6, a7.len, hlen]
    cases q : decide ((l7.length : Int) = 0) <;> simp only [go_sem, ↓reduceIte, Nat.reduceEqDiff, reduceCtorEq, Nat.reduceAdd, Nat.reduceLeDiff, Nat.reduceMul, k0, k3, k5, k6, q]
    have hl0 : 0 < l7.length := by have := of_decide_eq_false q; omega
    refine callD (f34 (i := 0) hv7 hb' (by omega) hcl w7) kH fun r8 H8 ⟨⟨x, e, hx0, hx1⟩, e8⟩ => ?_
    subst e; subst e8
    have hne : ¬ ((l7.length : Int) = 0) := by omega
    have h0 := Int.tmod_eq_emod_of_nonneg (b := (l7.length : Int)) hx0
    have h1 := Int.emod_lt_of_pos x (show 0 < (l7.length : Int) by omega)
    have h2 := Int.emod_nonneg x hne
    obtain ⟨n, hn⟩ : ∃ n : Nat, Int.tmod x (l7.length : Int) = (n : Int) := ⟨(Int.tmod x (l7.length : Int)).toNat, by omega⟩
    have hnl : n < l7.length := by omega
    obtain ⟨v1, t1, o1, i1, sl1⟩ := a7.takeO (i := n) (by omega)
    obtain ⟨v2, sl2, i2, t2d⟩ := a7.drop (i := n + 1) (by omega)
    have t2' := t2d H8 _ rfl a7
    have e1' : ((n + 1 : Nat) : Int) = (n : Int) + 1 := by omega
    rw [e1'] at sl2
    have wn := wrap64 ((n : Int) + 1) (by omega) (by omega)
    have pn : H8 <+: H8 ++ [[]] := List.prefix_append _ _
    have own0 : SlS (H8 ++ [[]]) (.slice (some ⟨H8.length, 0, some 1⟩) 0 (0 * 1)) [] := own_newS
    have oo0 : OwnS H8.length (.slice (some ⟨H8.length, 0, some 1⟩) 0 (0 * 1)) := .inr ⟨_, _, _, _, rfl, Nat.le_refl _⟩
    obtain ⟨va, Ha, b1, b2, b3, b4, b5', b6', b7'⟩ := own0.join (m := m) (bytes := 16) (t1.pre pn) (fun _ => rfl) (by omega) oo0 pn.length_le w7 (by unfold Ev.room; simp; omega) (by unfold Ev.room; simp; omega)
    have pa := b7' H8 (Nat.le_refl _) pn
    obtain ⟨vb, Hb, d1, d2, d3, d4, d5, d6, d7⟩ := b2.join (m := m) (bytes := 16) (t2'.pre pa) (fun _ => rfl) (by omega) b3 pa.length_le w7 (by unfold Ev.room; simp; omega) (by unfold Ev.room; simp; omega)
    have pb := d7 H8 (Nat.le_refl _) pa
    have wb := w7.pre pb
    rw [List.nil_append] at d2
    have hcutlen : ((rowsN k l7 l7.length).take n ++ (rowsN k l7 l7.length).drop (n + 1)).length ≤ 1048576 := by rw [List.length_append, List.length_take, List.length_drop]; omega
    have hcutz : ∀ z ∈ (rowsN k l7 l7.length).take n ++ (rowsN k l7 l7.length).drop (n + 1), z.size ≤ 1048576 := fun z hz' => by
      rcases List.mem_append.1 hz' with h | h
      · exact hsz' z (List.mem_of_mem_take h)
      · exact hsz' z (List.mem_of_mem_drop h)
    simp only [go_sem, ↓reduceIte, Nat.reduceEqDiff, reduceCtorEq, Nat.reduceAdd, Nat.reduceLeDiff, Nat.reduceMul, k0, k3, k5, k6, a7.len, hlen, hne, hn]
    refine go_draw ?_
    simp only [go_sem, ↓reduceIte, Nat.reduceEqDiff, reduceCtorEq, Nat.reduceAdd, Nat.reduceLeDiff, Nat.reduceMul, k0, k3, k5, k6, sl1, fillL]
    rw [b1]
    rotate_left
    · rfl
    · rfl
    · rfl
    simp only [go_sem, ↓reduceIte, Nat.reduceEqDiff, reduceCtorEq, Nat.reduceAdd, Nat.reduceLeDiff, Nat.reduceMul, k0, k3, k5, k6, sl2, wn]
    rw [d1]
    rotate_left
    · rfl
    · rfl
    · rfl
    simp only [go_sem, ↓reduceIte, Nat.reduceEqDiff, reduceCtorEq, Nat.reduceAdd, Nat.reduceLeDiff, Nat.reduceMul, k0, k3, k5, k6]
    refine callT_to (fun m' h => f29 (k := k) (head := sealHead k l7.length) d2 hcutlen hcutz h) rfl wb fun r9 H9 ⟨w9', n9, l9, e, ⟨p9, s9, o9⟩, b9⟩ => ?_
    subst e
    have w9 := wb.pre p9
    have P9 := pb.trans p9
    have a9 := a7.pre P9
    simp only [go_sem, ↓reduceIte, Nat.reduceEqDiff, reduceCtorEq, Nat.reduceAdd, Nat.reduceLeDiff, Nat.reduceMul, List.getElem?_toArray, ofV, s9.vc, k0, k3, k5, k6]
    refine ⟨by rfl, ?_⟩
    obtain ⟨v3, t3c, o3c, i3, sl3⟩ := a9.takeO (i := n) (by omega)
    simp only [go_sem, ↓reduceIte, Nat.reduceEqDiff, reduceCtorEq, Nat.reduceAdd, Nat.reduceLeDiff, Nat.reduceMul, k0, k3, k5, k6, sl3]
    refine callT_to (fun m' h => f29 (k := k) (head := sealHead k l7.length) t3c (by rw [List.length_take]; omega) (fun z hz' => hsz' z (List.mem_of_mem_take hz')) h) rfl w9 fun r10 H10 ⟨w10', n10, l10, e, ⟨p10, s10, o10⟩, b10⟩ => ?_
    obtain ⟨rfl, rfl⟩ := b10.unique (aud_cut hA hzB hnl)
    subst e
    have w10 := w9.pre p10
    have a10 := a9.pre p10
    have pn2 : H10 <+: H10 ++ [[]] := List.prefix_append _ _
    have own2 : SlS (H10 ++ [[]]) (.slice (some ⟨H10.length, 0, some 1⟩) 0 (0 * 1)) [] := own_newS
    have oo2 : OwnS H10.length (.slice (some ⟨H10.length, 0, some 1⟩) 0 (0 * 1)) := .inr ⟨_, _, _, _, rfl, Nat.le_refl _⟩
    obtain ⟨vc, Hc, g1, g2, g3, g4, g5, g6, g7⟩ := own2.join (m := m) (bytes := 16) (a10.pre pn2) (fun _ => rfl) (by omega) oo2 pn2.length_le w10 (by unfold Ev.room; simp; omega) (by unfold Ev.room; simp; omega)
    have pc := g7 H10 (Nat.le_refl _) pn2
    rw [List.nil_append] at g2
    have ac := a10.pre pc
    obtain ⟨idr, pr, or, hor0, hrr, hiar⟩ := a10.str (rows_get hnl)
    have hor : Hc[idr]? = some or := by rw [pre_get pc (List.getElem?_eq_some_iff.1 hor0).1]; exact hor0
    obtain ⟨vd, Hd, j1, j2, j3, j4, j5, j6, j7⟩ := g2.oneS (m := m) (sealLine k ((n + 1 : Nat) : Int) l7[n]) g3 pc.length_le w10 (by omega)
    have pd := j7 H10 (Nat.le_refl _) pc
    have wd := w10.pre pd
    simp only [go_sem, ↓reduceIte, Nat.reduceEqDiff, reduceCtorEq, Nat.reduceAdd, Nat.reduceLeDiff, Nat.reduceMul, List.getElem?_toArray, ofV, s10.vc, k0, k3, k5, k6]
    have hid0 : (idsOf (.slice (some ⟨H10.length, 0, some 1⟩) 0 (0 * 1))).all (fun id => decide (H10.length ≤ id)) = true := by simp [idsOf]
    have hidc : (idsOf vc).all (fun id => decide (H10.length ≤ id)) = true := List.all_eq_true.2 fun j hj => decide_eq_true (own_geD g3 j hj)
    have hle1 : decide (H10.length ≤ (H10 ++ [([] : List Value)]).length) = true := decide_eq_true pn2.length_le
    have hle2 : decide (H10.length ≤ Hc.length) = true := decide_eq_true pc.length_le
    have hle3 : decide (H10.length ≤ Hd.length) = true := decide_eq_true pd.length_le
    have hlt : decide (idr < H10.length) = true := decide_eq_true (List.getElem?_eq_some_iff.1 hor0).1
    refine go_draw2 H10.length ?_
    simp only [go_sem, ↓reduceIte, Nat.reduceEqDiff, reduceCtorEq, Nat.reduceAdd, Nat.reduceLeDiff, Nat.reduceMul, k0, k3, k5, k6, fillL]
    rw [g1]
    rotate_left
    · rfl
    · rfl
    · rfl
    simp only [go_sem, ↓reduceIte, Nat.reduceEqDiff, reduceCtorEq, Nat.reduceAdd, Nat.reduceLeDiff, Nat.reduceMul, k0, k3, k5, k6, hiar, hor, hrr, hlt, hle1, Option.map_some, hid0]
    rw [j1]
    rotate_left
    · rfl
    · rfl
    · rfl
    simp only [go_sem, ↓reduceIte, Nat.reduceEqDiff, reduceCtorEq, Nat.reduceAdd, Nat.reduceLeDiff, Nat.reduceMul, k0, k3, k5, k6, Option.map_some, hidc, hle2, hle3, beq_self_eq_true]
    refine callT_to (fun m' h => f29 (k := k) (head := sealHead k l7.length) j2 (by rw [List.length_append]; simp; omega) (fun z hz' => by
      rcases List.mem_append.1 hz' with h | h
      · exact hsz' z h
      · rw [List.mem_singleton] at h; subst h; have := sealLine_size k ((n + 1 : Nat) : Int) l7[n]; omega) h) rfl wd fun r11 H11 ⟨w11', n11, l11, e, ⟨p11, s11, o11⟩, b11⟩ => ?_
    obtain ⟨rfl, rfl⟩ := b11.unique (aud_twice hA hzB hnl)
    subst e
    have w11 := wd.pre p11
    have a11 := (a10.pre pd).pre p11
    simp only [go_sem, ↓reduceIte, Nat.reduceEqDiff, reduceCtorEq, Nat.reduceAdd, Nat.reduceLeDiff, Nat.reduceMul, List.getElem?_toArray, ofV, s11.vc, k0, k3, k5, k6]
    refine ⟨by rfl, ?_⟩
    simp only [go_sem, ↓reduceIte, Nat.reduceEqDiff, reduceCtorEq, Nat.reduceAdd, Nat.reduceLeDiff, Nat.reduceMul, k0, k3, k5, k6, wrap64 (k + 1) (by omega) (by omega)]
    refine callT_to (fun m' h => f29 (k := k + 1) (head := sealHead k l7.length) a11 (by omega) hsz' h) rfl w11 fun r12 H12 ⟨w12', n12, l12, e, ⟨p12, s12, o12⟩, b12⟩ => ?_
    obtain ⟨rfl, rfl⟩ := b12.unique (aud_other hA hzB hl0)
    subst e
    have a12 := a11.pre p12
    have wl := wrap64 ((l7.length : Int) - 1) (by omega) (by omega)
    have wl1 := wrap64 ((l7.length : Int) + 1) (by omega) (by omega)
    have hm1 : decide ((-1 : Int) = -1) = true := rfl
    have h11 : decide ((1 : Int) = 1) = true := rfl
    simp only [go_sem, ↓reduceIte, Nat.reduceEqDiff, reduceCtorEq, Nat.reduceAdd, Nat.reduceLeDiff, Nat.reduceMul, List.getElem?_toArray, ofV, s12.vc, k0, k3, k5, k6, wn, a12.len, hlen, wl]
    by_cases hlast : n + 1 = l7.length
    · have hd : decide ((n : Int) = (l7.length : Int) - 1) = true := decide_eq_true (by omega)
      obtain ⟨rfl, rfl⟩ := b9.unique (aud_last hA hzB hlast)
      simp only [go_sem, ↓reduceIte, Nat.reduceEqDiff, reduceCtorEq, Nat.reduceAdd, Nat.reduceLeDiff, Nat.reduceMul, k0, k3, k5, k6, wn, a12.len, hlen, hd, wl1, hm1, h11, hBi]
    · have hd : decide ((n : Int) = (l7.length : Int) - 1) = false := decide_eq_false (by omega)
      obtain ⟨rfl, rfl⟩ := b9.unique (aud_gone hA hzB (by omega))
      simp only [go_sem, ↓reduceIte, Nat.reduceEqDiff, reduceCtorEq, Nat.reduceAdd, Nat.reduceLeDiff, Nat.reduceMul, k0, k3, k5, k6, wn, a12.len, hlen, hd, wl1, hm1, h11, hBi]
end Go.Proofs.Ytpdkgbamakileaa.Ev
