/- Each operation of the small machine is Go's own: those that make a value out of values. -/
import Derived.Test.YtdplmjlbkaipiaaE4
import Derived.Laws.MakeOwn
namespace Go.Proofs.Ytdplmjlbkaipiaa.Ev
set_option linter.all false
open Go

/-- One operation of Go goes with one of the machine. -/
def Sim (P : Program) (B N nt : Nat) (o : Oper) (J : Inj) (s : St) (a : Act) (w : World) (f : FV) (s' : St) : Prop :=
  ∃ res v w' J', (execOp a.eval o).run P w = .ok res w' ∧ (res = .value v ∨ res = .skip ∧ v = undef) ∧ Tr B N J s.H w J' s'.H w' ∧ Rel B N nt J' { s' with ρ := upd s'.ρ o.dst f } (a.put o.dst v) w'

theorem run_value {P : Program} {w w' : World} {s : Sem Value} {v : Value} (h : s.run P w = .ok v w') : ((do pure (Next.value (← s)) : Sem Next)).run P w = .ok (.value v) w' := by
  simp [h]

theorem run_unit {P : Program} {w w' : World} {s : Sem Unit} (h : s.run P w = .ok () w') : ((do s; pure Next.skip : Sem Next)).run P w = .ok .skip w' := by
  simp [h]

section
variable {P : Program} {B N nt : Nat} {o : Oper} {J : Inj} {s : St} {a : Act} {w : World}

theorem VRel.of_constOk {J : Inj} {H : Hp} {v : Value} (h : constOk v = true) : VRel J H v v := by
  unfold constOk at h
  split at h
  · rename_i cs
    refine .agg cs cs rfl (fun i x hx => ?_) fun i x y hx hy => ?_
    · exact scal_one (List.all_eq_true.1 h x (by simpa using Array.mem_of_getElem? hx))
    · rw [hx] at hy; cases hy
      exact .scal (List.all_eq_true.1 h x (by simpa using Array.mem_of_getElem? hx))
  · rename_i cs
    have : cs = #[] := by simpa using h
    subst this
    exact .tup _ _ rfl fun i x y hx => by simp at hx
  · exact .scal h

theorem opx (R : Rel B N nt J s a w) {x : Operand} {y : X} {v : Value} (hx : cx x = some y) (hv : exv s.ρ y = some v) : VRel J s.H v (a.eval x) := by
  cases x with
  | tmp t =>
    simp only [cx] at hx; cases hx
    simp only [exv, ex] at hv
    split at hv
    · rename_i u hu
      cases hv
      obtain ⟨own, ho⟩ := R.fr
      have := ho.ok t
      unfold FOk at this
      simp only [hu] at this
      exact this
    · cases hv
  | const c =>
    simp only [cx] at hx
    split at hx
    · rename_i hc
      cases hx
      simp only [exv, ex] at hv; cases hv
      exact .of_constOk hc
    · cases hx
  | func f =>
    simp only [cx] at hx; cases hx
    simp only [exv, ex] at hv; cases hv
    exact .fn f #[] #[] rfl fun i x y hx => by simp at hx
  | global g => simp only [cx] at hx; cases hx

theorem Sim.of_val {f v : Value} (R : Rel B N nt J s a w) (hd : ∀ d, o.dst = some d → d < nt) (h : (execOp a.eval o).run P w = .ok (.value v) w) (hv : VRel J s.H f v) : Sim P B N nt o J s a w (.val f) s :=
  ⟨_, v, w, J, h, .inl rfl, .refl _ _ _ _ _, R.put_val hd hv⟩

theorem VRel.int_inv {J : Inj} {H : Hp} {k : IntKind} {n : Int} {c : Value} (h : VRel J H (.int k n) c) : c = .int k n := by cases h; rfl
theorem VRel.bool_inv {J : Inj} {H : Hp} {b : Bool} {c : Value} (h : VRel J H (.bool b) c) : c = .bool b := by cases h; rfl
theorem VRel.str_inv {J : Inj} {H : Hp} {b : ByteArray} {c : Value} (h : VRel J H (.string b) c) : c = .string b := by cases h; rfl

theorem sim_mov {x : Operand} {y : X} (hop : o.op = .move x ∨ o.op = .assign x) (hx : cx x = some y) (R : Rel B N nt J s a w) (hd : ∀ d, o.dst = some d → d < nt) {f : FV} {s' : St} (h : movK s y = some (f, s')) :
    Sim P B N nt o J s a w f s' := by
  have hrun : (execOp a.eval o).run P w = .ok (.value (a.eval x)) w := by rcases hop with e | e <;> simp [execOp, e]
  unfold movK at h
  split at h
  · rename_i f' hf
    cases h
    cases y with
    | t t =>
      have hxt : x = .tmp t := by cases x <;> simp [cx] at hx <;> simp_all
      subst hxt
      obtain ⟨own, ho⟩ := R.fr
      cases hρ : s.ρ t with
      | val u =>
        simp only [ex, hρ, mv1] at hf; cases hf
        exact .of_val R hd hrun (opx R (x := .tmp t) rfl (by simp [exv, ex, hρ]))
      | vp t' g off =>
        simp only [ex, hρ, mv1] at hf; cases hf
        refine ⟨_, _, w, J, hrun, .inl rfl, .refl _ _ _ _ _, R.put_vp hd (ho.gvp t t' g off hρ) fun own' ho' cs hcs => ?_⟩
        have := ho'.ok t
        unfold FOk at this
        simp only [hρ] at this
        exact this cs hcs
      | bx g cs => simp [ex, hρ, mv1] at hf
      | vs n cs => simp [ex, hρ, mv1] at hf
      | junk => simp [ex, hρ, mv1] at hf
    | c v =>
      simp only [ex, mv1] at hf; cases hf
      exact .of_val R hd hrun (opx R hx rfl)
    | f g =>
      simp only [ex, mv1] at hf; cases hf
      exact .of_val R hd hrun (opx R hx rfl)
  · cases h

theorem sim_pick {x1 x2 x3 : Operand} {c p q : X} (hop : o.op = .pick x1 x2 x3) (h1 : cx x1 = some c) (h2 : cx x2 = some p) (h3 : cx x3 = some q) (R : Rel B N nt J s a w) (hd : ∀ d, o.dst = some d → d < nt) {f : FV} {s' : St}
    (h : pickK s c p q = some (f, s')) : Sim P B N nt o J s a w f s' := by
  unfold pickK at h
  split at h
  · rename_i t u v e1 e2 e3
    simp only [St.val] at h; cases h
    have r1 := (opx R h1 e1).bool_inv
    have hrun : (execOp a.eval o).run P w = .ok (.value (if t then a.eval x2 else a.eval x3)) w := by simp [execOp, hop, r1, asBool]
    refine .of_val R hd hrun ?_
    cases t
    · exact opx R h3 e3
    · exact opx R h2 e2
  · cases h

theorem beqBytes (x y : ByteArray) : (x.toList == y.toList) = decide (x = y) := by
  by_cases h : x = y
  · subst h; simp
  · rw [decide_eq_false h, beq_eq_false_iff_ne]
    intro e
    rw [ByteArray.toList_eq, ByteArray.toList_eq] at e
    exact h (ByteArray.ext (Array.toList_inj.1 e))

theorem binV_scal {op : BinOp} {x y v : Value} (h : binV op x y = some v) : scal v = true := by
  unfold binV at h
  split at h <;> (repeat' (split at h)) <;> first | (cases h; done) | (cases h; rfl)

theorem binV_run {op : BinOp} {x y v : Value} (t : TypeId) (h : binV op x y = some v) : (binOp op t x y).run P w = .ok v w := by
  unfold binV at h
  split at h <;> (repeat' (split at h)) <;> first
    | (cases h; done)
    | (cases h; subst_vars; simp [binOp, Op.shift, Op.intArith, Op.intBits, Op.intCmp, Op.intDiv, Op.stringOp, beqBytes, *]; done)
    | (cases h; subst_vars; simp [binOp, Op.intCmp]; rfl)
    | skip
  rename_i hsz
  cases h
  simp only [binOp, Op.stringOp]
  rw [if_neg (by rw [IntKind.max_i64]; omega)]
  rfl

theorem run_bin {op : BinOp} {t : TypeId} {x1 x2 : Operand} {ty : TypeId} {v1 v2 v : Value} (hop : o.op = .binOp op t x1 x2 ty) (e1 : a.eval x1 = v1) (e2 : a.eval x2 = v2)
    (hg : (eqGuard op t x1 x2 v1 v2).run P w = .ok () w) (h : (binOp op t v1 v2).run P w = .ok v w) : (execOp a.eval o).run P w = .ok (.value v) w := by
  subst e1; subst e2
  simp only [execOp, hop]
  refine run_value ?_
  simp only [Sem.run_bind, hg, Result.andThen_ok, h]

theorem binV_guard {op : BinOp} {x y v : Value} (t : TypeId) (x1 x2 : Operand) (h : binV op x y = some v) : (eqGuard op t x1 x2 x y).run P w = .ok () w := by
  have hx : (∃ k n, x = .int k n) ∨ ∃ b, x = .string b := by
    unfold binV at h
    split at h <;> first | exact .inl ⟨_, _, rfl⟩ | exact .inr ⟨_, rfl⟩ | cases h
  rcases hx with ⟨k, n, rfl⟩ | ⟨b, rfl⟩
  · rw [eqGuard_at_int]; rfl
  · rw [eqGuard_at_string]; rfl

theorem binV_scal2 {op : BinOp} {x y v : Value} (h : binV op x y = some v) : scal x = true ∧ scal y = true := by
  unfold binV at h
  split at h <;> first | exact ⟨rfl, rfl⟩ | cases h

theorem sim_bin {op : BinOp} {t ty : TypeId} {x1 x2 : Operand} {p q : X} (hop : o.op = .binOp op t x1 x2 ty) (h1 : cx x1 = some p) (h2 : cx x2 = some q) (R : Rel B N nt J s a w) (hd : ∀ d, o.dst = some d → d < nt) {f : FV} {s' : St}
    (h : binK s op p q = some (f, s')) : Sim P B N nt o J s a w f s' := by
  unfold binK at h
  split at h
  · rename_i u v e1 e2
    cases hb : binV op u v with
    | none => simp [ofV, hb] at h
    | some z =>
      simp only [ofV, hb] at h; cases h
      obtain ⟨s1, s2⟩ := binV_scal2 hb
      exact .of_val R hd (run_bin hop ((opx R h1 e1).of_scal s1) ((opx R h2 e2).of_scal s2) (binV_guard t x1 x2 hb) (binV_run t hb)) (.scal (binV_scal hb))
  · cases h

theorem sim_beq {neg : Bool} {op : BinOp} {t ty : TypeId} {x1 x2 : Operand} {p q : X} (hop : o.op = .binOp op t x1 x2 ty) (hn : (op = .eql ∧ neg = false) ∨ (op = .neq ∧ neg = true)) (ht : P.underlying t = some .bool)
    (h1 : cx x1 = some p) (h2 : cx x2 = some q) (R : Rel B N nt J s a w) (hd : ∀ d, o.dst = some d → d < nt) {f : FV} {s' : St}
    (h : beqK s neg p q = some (f, s')) : Sim P B N nt o J s a w f s' := by
  unfold beqK at h
  split at h
  · rename_i u v e1 e2
    simp only [St.val] at h; cases h
    refine .of_val R hd (run_bin hop (opx R h1 e1).bool_inv (opx R h2 e2).bool_inv (by rw [eqGuard_at_bool]; rfl) ?_) (.bool _)
    rcases hn with ⟨rfl, rfl⟩ | ⟨rfl, rfl⟩
    · simp only [binOp, Sem.run_bind, run_equal_bool w t u v ht, Result.andThen_ok]; cases u <;> cases v <;> rfl
    · simp only [binOp, Sem.run_bind, run_equal_bool w t u v ht, Result.andThen_ok]; cases u <;> cases v <;> rfl
  · cases h

theorem scEq_scal {k : Nat} {x y : Value} {r : Bool} (h : scEq k x y = some r) : scal x = true ∧ scal y = true := by
  unfold scEq at h
  split at h <;> first | exact ⟨rfl, rfl⟩ | cases h

theorem agEq_scal : ∀ {ks : List Nat} {as bs : List Value} {r : Bool}, agEq ks as bs = some r → (∀ v ∈ as, scal v = true) ∧ ∀ v ∈ bs, scal v = true
  | [], [], [], _, _ => ⟨by simp, by simp⟩
  | k :: ks, x :: as, y :: bs, r, h => by
    simp only [agEq] at h
    split at h
    · rename_i p q e1 e2
      obtain ⟨i2, i3⟩ := agEq_scal e2
      have := scEq_scal e1
      refine ⟨fun v hv => ?_, fun v hv => ?_⟩
      · rcases List.mem_cons.1 hv with rfl | hv
        · exact this.1
        · exact i2 v hv
      · rcases List.mem_cons.1 hv with rfl | hv
        · exact this.2
        · exact i3 v hv
    · cases h
  | [], [], _ :: _, _, h => by simp [agEq] at h
  | [], _ :: _, _, _, h => by simp [agEq] at h
  | _ :: _, [], _, _, h => by simp [agEq] at h
  | _ :: _, _ :: _, [], _, h => by simp [agEq] at h

theorem VRel.agg_scal {J : Inj} {H : Hp} {cs : Array Value} {c : Value} (h : VRel J H (.agg cs) c) (hs : ∀ v ∈ cs.toList, Ev.scal v = true) : c = .agg cs := by
  cases h with
  | agg cs ds hz h1 h =>
    congr 1
    apply Array.ext hz.symm
    intro i hi1 hi2
    exact (h i cs[i] ds[i] (Array.getElem?_eq_getElem hi2) (Array.getElem?_eq_getElem hi1)).of_scal (hs _ (by simp))

theorem run_part_one {t : TypeId} {cs : Array Value} {off : Nat} {v : Value} {d : TypeDesc} (hu : P.underlying t = some d) (hd : isAggD d = false) (hv : cs[off]? = some v) : (part t cs off).run P w = .ok v w := by
  have hi : (isAgg t).run P w = .ok false w := by
    simp only [isAgg, Sem.run_bind, run_underlying hu, Result.andThen_ok]
    cases d <;> first | rfl | (simp [isAggD] at hd)
  simp only [part, Sem.run_bind, hi, Result.andThen_ok, Bool.false_eq_true, if_false, hv]
  rfl

theorem run_eqFields {d : Nat} {xs ys : Array Value} : ∀ {fs : List Field} {k : Nat} {ks : List Nat} {r : Bool}, flatFields P fs k = some ks → agEq ks (xs.toList.drop k) (ys.toList.drop k) = some r →
    (Op.eqFields (d + 1) xs ys fs).run P w = .ok r w
  | [], k, ks, r, hf, h => by
    simp only [flatFields] at hf; cases hf
    generalize xs.toList.drop k = u at h
    generalize ys.toList.drop k = v at h
    cases u <;> cases v <;> simp [agEq] at h
    subst h
    rfl
  | f :: fs, k, ks, r, hf, h => by
    simp only [flatFields] at hf
    split at hf
    · rename_i ho
      obtain ⟨ho, hn⟩ := ho
      obtain ⟨k0, ks', hks, hrest, hkind⟩ : ∃ k0 ks', ks = k0 :: ks' ∧ flatFields P fs (k + 1) = some ks' ∧ ∃ d', P.underlying f.type = some d' ∧ isAggD d' = false ∧
          ∀ (u v : Value) (p : Bool), scEq k0 u v = some p → (Op.equalIn (d + 1) f.type u v).run P w = .ok p w := by
        split at hf
        · rename_i k1 ks1 hu hr; cases hf
          refine ⟨0, _, rfl, hr, _, hu, rfl, fun u v p e => ?_⟩
          unfold scEq at e
          split at e <;> first | (split at e <;> first | (cases e; subst_vars; simp [Op.equalIn, run_underlying hu]; done) | (cases e; subst_vars; simp [Op.equalIn, run_underlying hu]; rfl) | cases e) | (rename_i e0; cases e0) | cases e
        · rename_i ks1 hu hr; cases hf
          refine ⟨1, _, rfl, hr, _, hu, rfl, fun u v p e => ?_⟩
          unfold scEq at e
          split at e
          · rename_i e0; cases e0
          · rename_i a1 b1 _; cases e
            simp only [Op.equalIn, Sem.run_bind, run_underlying hu, Result.andThen_ok]
            cases a1 <;> cases b1 <;> rfl
          · rename_i e0; cases e0
          · cases e
        · rename_i ks1 hu hr; cases hf
          refine ⟨2, _, rfl, hr, _, hu, rfl, fun u v p e => ?_⟩
          unfold scEq at e
          split at e
          · rename_i e0; cases e0
          · rename_i e0; cases e0
          · rename_i a1 b1 _; cases e
            simp only [Op.equalIn, Sem.run_bind, run_underlying hu, Result.andThen_ok, Sem.run_pure]
            rw [← beqBytes, beq_toListBytes]
          · cases e
        · cases hf
      obtain ⟨d', u1, u2, u3⟩ := hkind
      subst hks
      cases hx : xs.toList.drop k with
      | nil => rw [hx] at h; simp [agEq] at h
      | cons x lx =>
        cases hy : ys.toList.drop k with
        | nil => rw [hx, hy] at h; simp [agEq] at h
        | cons y ly =>
          rw [hx, hy] at h
          have nx : xs.toList[k]? = some x ∧ xs.toList.drop (k + 1) = lx := by
            constructor
            · have : (xs.toList.drop k)[0]? = some x := by rw [hx]; rfl
              simpa using this
            · rw [← List.drop_drop, hx]; rfl
          have ny : ys.toList[k]? = some y ∧ ys.toList.drop (k + 1) = ly := by
            constructor
            · have : (ys.toList.drop k)[0]? = some y := by rw [hy]; rfl
              simpa using this
            · rw [← List.drop_drop, hy]; rfl
          simp only [agEq] at h
          split at h
          · rename_i p q e1 e2
            cases h
            have ih := run_eqFields (d := d) (xs := xs) (ys := ys) hrest (by rw [nx.2, ny.2]; exact e2)
            have px : xs[f.offset]? = some x := by rw [ho, ← Array.getElem?_toList]; exact nx.1
            have py : ys[f.offset]? = some y := by rw [ho, ← Array.getElem?_toList]; exact ny.1
            simp only [Op.eqFields, hn, ne_eq, not_false_eq_true, if_true, Sem.run_bind, run_part_one u1 u2 px, run_part_one u1 u2 py, Result.andThen_ok, u3 x y p e1, Sem.run_ite, ih]
            cases p <;> simp
          · cases h
    · cases hf

theorem sim_aeq {neg : Bool} {op : BinOp} {t ty : TypeId} {x1 x2 : Operand} {p q : X} {fs : Array Field} {ks : List Nat} (hop : o.op = .binOp op t x1 x2 ty) (hn : (op = .eql ∧ neg = false) ∨ (op = .neq ∧ neg = true))
    (ht : P.underlying t = some (.struct fs)) (hf : flatFields P fs.toList 0 = some ks) (hp : P.stoodInHeld t = false) (hg : P.eqGuardType P.depth t = false)
    (h1 : cx x1 = some p) (h2 : cx x2 = some q) (R : Rel B N nt J s a w) (hd : ∀ d, o.dst = some d → d < nt) {f : FV} {s' : St}
    (h : aeqK s neg ks p q = some (f, s')) : Sim P B N nt o J s a w f s' := by
  unfold aeqK at h
  split at h
  · rename_i u v e1 e2
    split at h
    · rename_i r hr
      simp only [St.val] at h; cases h
      obtain ⟨s1, s2⟩ := agEq_scal hr
      have hF : P.fieldsOf t = fs := by simp [Program.fieldsOf, ht]
      have hq : (Op.equalIn 10000 t (.agg u) (.agg v)).run P w = .ok r w := by
        rw [run_equalIn_agg w 9999 t u v (by rw [hF]; exact ht) hp, hF]
        exact run_eqFields (d := 9998) hf (by simpa using hr)
      refine .of_val R hd (run_bin hop ((opx R h1 e1).agg_scal s1) ((opx R h2 e2).agg_scal s2) (run_eqGuard_agg w op t x1 x2 u v hg) ?_) (.bool _)
      rcases hn with ⟨rfl, rfl⟩ | ⟨rfl, rfl⟩
      · rw [run_eql_struct, hq]; rfl
      · rw [run_neq_struct, hq]; rfl
    · cases h
  · cases h

theorem sim_un {op : UnOp} {t : TypeId} {x1 : Operand} {p : X} (hop : o.op = .unOp op t x1) (h1 : cx x1 = some p) (R : Rel B N nt J s a w) (hd : ∀ d, o.dst = some d → d < nt) {f : FV} {s' : St}
    (h : unK s op p = some (f, s')) : Sim P B N nt o J s a w f s' := by
  unfold unK at h
  split at h
  · rename_i u e1
    cases hb : unV op u with
    | none => simp [ofV, hb] at h
    | some z =>
      simp only [ofV, hb] at h; cases h
      have r1 := opx R h1 e1
      unfold unV at hb
      split at hb
      · cases hb
        refine .of_val R hd ?_ (.int _ _)
        simp only [execOp, hop, r1.int_inv]
        exact run_value rfl
      · cases hb
        refine .of_val R hd ?_ (.bool _)
        simp only [execOp, hop, r1.bool_inv]
        exact run_value rfl
      · cases hb
  · cases h

theorem sim_toInt {sr ds : TypeId} {k k0 : IntKind} {x1 : Operand} {p : X} (hop : o.op = .convert sr ds x1) (hs : P.underlying sr = some (.int k0)) (hk : P.underlying ds = some (.int k)) (h1 : cx x1 = some p) (R : Rel B N nt J s a w)
    (hd : ∀ d, o.dst = some d → d < nt) {f : FV} {s' : St} (h : toIntK s k p = some (f, s')) : Sim P B N nt o J s a w f s' := by
  unfold toIntK at h
  split at h
  · rename_i k1 n e1
    simp only [St.val] at h; cases h
    refine .of_val R hd ?_ (.int _ _)
    simp only [execOp, hop, (opx R h1 e1).int_inv]
    refine run_value ?_
    simp [convert, run_underlying hs, run_underlying hk, Conv.intToInt]
  · cases h

theorem sim_str {sr ds : TypeId} {x1 : Operand} {p : X} (hop : o.op = .convert sr ds x1) (hs : P.underlying sr = some .string) (hk : P.underlying ds = some .string) (h1 : cx x1 = some p) (R : Rel B N nt J s a w)
    (hd : ∀ d, o.dst = some d → d < nt) {f : FV} {s' : St} (h : strK s p = some (f, s')) : Sim P B N nt o J s a w f s' := by
  unfold strK at h
  split at h
  · rename_i b e1
    simp only [St.val] at h; cases h
    refine .of_val R hd ?_ (.str _)
    simp only [execOp, hop, (opx R h1 e1).str_inv]
    refine run_value ?_
    simp [convert, run_underlying hs, run_underlying hk]
  · cases h

theorem tyI_spec {t : TypeId} {n : Nat} {agg : Bool} (h : tyI P t = some (n, agg)) : ∃ i d, P.info? t = some i ∧ P.underlying t = some d ∧ isAggD d = agg ∧ i.size = n ∧ (agg = false → n = 1) := by
  unfold tyI at h
  split at h
  · rename_i i d h1 h2
    split at h
    · rename_i h3; cases h; exact ⟨i, d, h1, h2, h3, rfl, by simp⟩
    · rename_i h3
      split at h
      · rename_i h4; cases h; exact ⟨i, d, h1, h2, by simpa using h3, h4, fun _ => rfl⟩
      · cases h
  · cases h

theorem run_isAgg {t : TypeId} {d : TypeDesc} (h : P.underlying t = some d) : (isAgg t).run P w = .ok (isAggD d) w := by
  simp only [isAgg, Sem.run_bind, run_underlying h, Result.andThen_ok]
  cases d <;> rfl

theorem run_sizeOf' {t : TypeId} {i : TypeInfo} (h : P.info? t = some i) : (sizeOf t).run P w = .ok i.size w := by
  simp [sizeOf, typeInfo, h]

theorem sim_fld {t : TypeId} {x1 : Operand} {p : X} {k n : Nat} {agg : Bool} {fs : Array Field} {fd : Field} (hop : o.op = .field t x1 k) (ht : P.underlying t = some (.struct fs)) (hk : fs[k]? = some fd) (hi : tyI P fd.type = some (n, agg))
    (h1 : cx x1 = some p) (R : Rel B N nt J s a w) (hd : ∀ d, o.dst = some d → d < nt) {f : FV} {s' : St} (h : fldK s fd.offset n agg p = some (f, s')) : Sim P B N nt o J s a w f s' := by
  unfold fldK at h
  obtain ⟨i, d, i1, i2, i3, i4, _⟩ := tyI_spec hi
  split at h
  · rename_i cs e1
    have hr := opx R h1 e1
    generalize hc : a.eval x1 = c at hr
    cases hr with
    | agg cs ds hz ho hh =>
      have hrun : ∀ v, (part fd.type ds fd.offset).run P w = .ok v w → (execOp a.eval o).run P w = .ok (.value v) w := fun v hv => by
        simp only [execOp, hop, hc]
        refine run_value ?_
        simp only [Instr.field, Sem.run_bind, run_underlying ht, Result.andThen_ok, hk, asAgg, Sem.run_pure, hv]
      split at h
      · rename_i hag
        simp only [St.val] at h; cases h
        refine .of_val R hd (hrun (.agg (ds.extract fd.offset (fd.offset + n))) ?_) ?_
        · simp only [part, Sem.run_bind, run_isAgg i2, Result.andThen_ok, i3, hag, if_true, run_sizeOf' i1, i4, Sem.run_pure]
        · refine .agg _ _ (by simp [hz]) (fun j x hx => ?_) fun j x y hx hy => ?_
          · rw [Array.getElem?_extract] at hx
            split at hx
            · exact ho _ x hx
            · cases hx
          · rw [Array.getElem?_extract] at hx hy
            split at hx
            · split at hy
              · exact hh _ x y hx hy
              · cases hy
            · cases hx
      · rename_i hag
        cases hv : cs[fd.offset]? with
        | none => simp [ofV, hv] at h
        | some v =>
          simp only [ofV, hv] at h; cases h
          have hlt : fd.offset < ds.size := by
            have := (Array.getElem?_eq_some_iff.1 hv).1
            omega
          refine .of_val R hd (hrun ds[fd.offset] ?_) (hh _ _ _ hv (Array.getElem?_eq_getElem hlt))
          exact run_part_one i2 (by simpa [hag] using i3) (Array.getElem?_eq_getElem hlt)
  · cases h

theorem sim_idx {t : TypeId} {x1 x2 : Operand} {p q : X} (hop : o.op = .index t x1 x2) (ht : P.underlying t = some .string) (h1 : cx x1 = some p) (h2 : cx x2 = some q) (R : Rel B N nt J s a w)
    (hd : ∀ d, o.dst = some d → d < nt) {f : FV} {s' : St} (h : idxK s p q = some (f, s')) : Sim P B N nt o J s a w f s' := by
  unfold idxK at h
  split at h
  · rename_i b k i e1 e2
    split at h
    · rename_i hi
      split at h
      · rename_i c hc
        simp only [St.val] at h; cases h
        refine .of_val R hd ?_ (.int _ _)
        simp only [execOp, hop, (opx R h1 e1).str_inv, (opx R h2 e2).int_inv]
        refine run_value ?_
        simp only [Instr.index, asIntOf, Sem.run_bind, Sem.run_pure, Result.andThen_ok, run_underlying ht, hi, if_true, hc]
      · cases h
    · cases h
  · cases h

theorem sim_ext {x1 : Operand} {p : X} {k : Nat} (hop : o.op = .extract x1 k) (h1 : cx x1 = some p) (R : Rel B N nt J s a w)
    (hd : ∀ d, o.dst = some d → d < nt) {f : FV} {s' : St} (h : extK s p k = some (f, s')) : Sim P B N nt o J s a w f s' := by
  unfold extK at h
  split at h
  · rename_i vs e1
    have hr := opx R h1 e1
    generalize hc : a.eval x1 = c at hr
    cases hr with
    | tup cs ds hz hh =>
      cases hv : vs[k]? with
      | none => simp [ofV, hv] at h
      | some v =>
        simp only [ofV, hv] at h; cases h
        have hlt : k < ds.size := by
          have := (Array.getElem?_eq_some_iff.1 hv).1
          omega
        refine .of_val R hd ?_ (hh _ _ _ hv (Array.getElem?_eq_getElem hlt))
        simp only [execOp, hop, hc]
        refine run_value ?_
        simp only [Instr.extract, Array.getElem?_eq_getElem hlt]
        rfl
  · cases h

theorem opxs (R : Rel B N nt J s a w) : ∀ {xs : List Operand} {ys : List X} {vs : List Value}, cxs xs = some ys → exvs s.ρ ys = some vs → LRel J s.H vs (xs.map a.eval)
  | [], ys, vs, h1, h2 => by
    simp only [cxs] at h1; cases h1
    simp only [exvs] at h2; cases h2
    exact .nil
  | x :: xs, ys, vs, h1, h2 => by
    simp only [cxs] at h1
    split at h1
    · rename_i y ys' e1 e2
      cases h1
      simp only [exvs] at h2
      split at h2
      · rename_i v vs' e3 e4
        cases h2
        exact .cons (opx R e1 e3) (opxs R e2 e4)
      · cases h2
    · cases h1

theorem sim_fn {g : FuncId} {first caps : Array Operand} {ys : List X} (hop : o.op = .makeFunc (.func g) first caps) (hf : first.isEmpty = true) (h1 : cxs caps.toList = some ys) (R : Rel B N nt J s a w)
    (hd : ∀ d, o.dst = some d → d < nt) {f : FV} {s' : St} (h : fnK s g ys = some (f, s')) : Sim P B N nt o J s a w f s' := by
  unfold fnK at h
  split at h
  · rename_i vs e1
    simp only [St.val] at h; cases h
    have hr := opxs R h1 e1
    have hfe : first = #[] := by simpa using hf
    refine .of_val R hd (v := .func (.func g) #[] (caps.map a.eval)) ?_ (.fn g _ _ ?_ fun i x y hx hy => ?_)
    · simp only [execOp, hop, hfe]
      refine run_value ?_
      simp [Instr.makeFunc]
    · have := hr.1
      simpa using this
    · refine hr.2 i x y (by simpa using hx) ?_
      simpa using hy
  · cases h

theorem sim_lenS {c : Call} {x1 : Operand} {p : X} {t e : TypeId} (hop : o.op = .call c) (hb : c.callee = .builtin .len) (ha : c.args.toList = [x1]) (hat : c.argTypes[0]? = some t) (ht : P.underlying t = some (.slice e)) (h1 : cx x1 = some p) (R : Rel B N nt J s a w)
    (hd : ∀ d, o.dst = some d → d < nt) {f : FV} {s' : St} (h : lenSK s p = some (f, s')) : Sim P B N nt o J s a w f s' := by
  have haa : c.args = #[x1] := by apply Array.toList_inj.1; rw [ha]
  have hrun : ∀ b n m, a.eval x1 = .slice b n m → (execOp a.eval o).run P w = .ok (.value (goInt n)) w := fun b n m he => by
    simp only [execOp, hop, resolve, hb, haa]
    simp [invoke, builtin, Builtin.len_, hat, he, run_underlying ht]
  unfold lenSK at h
  split at h
  · rename_i e1
    simp only [St.val] at h; cases h
    have hr := opx R h1 e1
    generalize hc : a.eval x1 = cv at hr
    cases hr
    exact .of_val R hd (hrun _ _ _ hc) (.int _ _)
  · rename_i id off e len cap e1
    simp only [St.val] at h; cases h
    have hr := opx R h1 e1
    generalize hc : a.eval x1 = cv at hr
    cases hr
    exact .of_val R hd (hrun _ _ _ hc) (.int _ _)
  · cases h

theorem sim_lenT {c : Call} {x1 : Operand} {p : X} {t : TypeId} (hop : o.op = .call c) (hb : c.callee = .builtin .len) (ha : c.args.toList = [x1]) (hat : c.argTypes[0]? = some t) (ht : P.underlying t = some .string) (h1 : cx x1 = some p) (R : Rel B N nt J s a w)
    (hd : ∀ d, o.dst = some d → d < nt) {f : FV} {s' : St} (h : lenTK s p = some (f, s')) : Sim P B N nt o J s a w f s' := by
  have haa : c.args = #[x1] := by apply Array.toList_inj.1; rw [ha]
  unfold lenTK at h
  split at h
  · rename_i b e1
    simp only [St.val] at h; cases h
    refine .of_val R hd (v := goInt b.size) ?_ (.int _ _)
    simp only [execOp, hop, resolve, hb, haa]
    simp [invoke, builtin, Builtin.len_, hat, (opx R h1 e1).str_inv, run_underlying ht]
  · cases h

theorem sim_mx {c : Call} {x1 x2 : Operand} {p q : X} (hop : o.op = .call c) (hb : c.callee = .builtin .max) (ha : c.args.toList = [x1, x2]) (h1 : cx x1 = some p) (h2 : cx x2 = some q) (R : Rel B N nt J s a w)
    (hd : ∀ d, o.dst = some d → d < nt) {f : FV} {s' : St} (h : mxK s p q = some (f, s')) : Sim P B N nt o J s a w f s' := by
  have haa : c.args = #[x1, x2] := by apply Array.toList_inj.1; rw [ha]
  unfold mxK at h
  split at h
  · rename_i k u k' v e1 e2
    simp only [St.val] at h; cases h
    refine .of_val R hd ?_ (.int _ _)
    simp only [execOp, hop, resolve, hb, haa]
    simp [invoke, builtin, Builtin.max_, Builtin.max2, (opx R h1 e1).int_inv, (opx R h2 e2).int_inv]
  · cases h

theorem sim_mn {c : Call} {x1 x2 : Operand} {p q : X} (hop : o.op = .call c) (hb : c.callee = .builtin .min) (ha : c.args.toList = [x1, x2]) (h1 : cx x1 = some p) (h2 : cx x2 = some q) (R : Rel B N nt J s a w)
    (hd : ∀ d, o.dst = some d → d < nt) {f : FV} {s' : St} (h : mnK s p q = some (f, s')) : Sim P B N nt o J s a w f s' := by
  have haa : c.args = #[x1, x2] := by apply Array.toList_inj.1; rw [ha]
  unfold mnK at h
  split at h
  · rename_i k u k' v e1 e2
    simp only [St.val] at h; cases h
    refine .of_val R hd ?_ (.int _ _)
    simp only [execOp, hop, resolve, hb, haa]
    simp [invoke, builtin, Builtin.min_, Builtin.min2, (opx R h1 e1).int_inv, (opx R h2 e2).int_inv]
  · cases h

theorem sim_nilc {x1 : Operand} {p : X} (hop : o.op = .nilCheck x1) (h1 : cx x1 = some p) (R : Rel B N nt J s a w)
    (hd : ∀ d, o.dst = some d → d < nt) {f : FV} {s' : St} (h : nilcK s p = some (f, s')) : Sim P B N nt o J s a w f s' := by
  unfold nilcK at h
  split at h
  · rename_i g a1 c1 e1
    simp only [St.val] at h; cases h
    have hr := opx R h1 (v := .func (.func g) a1 c1) (by simp [exv, e1])
    generalize hc : a.eval x1 = cv at hr
    cases hr with
    | fn _ cs ds hs h => exact .of_val R hd (by simp only [execOp, hop, hc]; rfl) (.fn _ _ _ hs h)
  · rename_i ad e1
    simp only [St.val] at h; cases h
    have hr := opx R h1 (v := .pointer (some ad)) (by simp [exv, e1])
    generalize hc : a.eval x1 = cv at hr
    cases hr with
    | ptr id off gen o2 a2 h hg hv => exact .of_val R hd (by simp only [execOp, hop, hc]; rfl) (.ptr _ _ _ _ _ h hg hv)
  · cases h

end
end Go.Proofs.Ytdplmjlbkaipiaa.Ev
