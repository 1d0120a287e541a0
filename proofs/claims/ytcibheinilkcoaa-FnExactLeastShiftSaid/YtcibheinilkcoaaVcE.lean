/- Part E of the small logic: the operations that leave the world alone do what is said of them. No conditions. -/
import Derived.Test.YtcibheinilkcoaaVcD
import Derived.Laws.StructEq
namespace Go.Vq
open Go.RowKit
section
variable {P : Program} {x : Cx} {σ : St} {ρ : Nat → Value} {a : Act} {w : World} {o : Oper} {ty : List (Nat × Td)} {K : V → Prop}

theorem VRel.one_int {U : Nat → Prop} {ob : List (Nat × Ob)} {v : Value} {k : IntKind} {n : Int} (h : VRel w U ob ρ v (.one (.int k n))) : v = .int k n := h
theorem VRel.one_bool {U : Nat → Prop} {ob : List (Nat × Ob)} {v : Value} {b : Bool} (h : VRel w U ob ρ v (.one (.bool b))) : v = .bool b := h

theorem StillOk.pure {v : Value} {V : V} (hv : VRel w (x.U σ.ob ρ) σ.ob ρ v V) (he : execOp a.eval o = pure (.value v)) : StillOk P x σ ρ a w o V :=
  ⟨v, hv, fun w' _ => by rw [he]; rfl⟩

theorem sound_move (h : Rel x σ ρ a w) {y : Operand} (ho : o.op = .move y ∨ o.op = .assign y) (hk : K (ev σ y)) : ∃ V, K V ∧ StillOk P x σ ρ a w o V :=
  ⟨_, hk, .pure (ev_rel h y) (by unfold execOp; rcases ho with ho | ho <;> rw [ho])⟩

theorem sound_pick (h : Rel x σ ρ a w) {c y z : Operand} (ho : o.op = .pick c y z) (hs : still ty o σ K) : ∃ V, K V ∧ StillOk P x σ ρ a w o V := by
  simp only [still, ho] at hs
  have hc := ev_rel h c
  have hy := ev_rel h y
  have hz := ev_rel h z
  have he : ∀ t : Bool, a.eval c = .bool t → execOp a.eval o = Pure.pure (.value (if t then a.eval y else a.eval z)) := by
    intro t ht
    unfold execOp; rw [ho]
    simp only [ht, asBool]
    rfl
  generalize ev σ c = Vc at *
  generalize ev σ y = Vy at *
  generalize ev σ z = Vz at *
  split at hs
  · rename_i t
    have ht := hc.one_bool
    split at hs
    · rename_i p q
      have h1 := hy.one_bool
      have h2 := hz.one_bool
      refine ⟨_, hs, .pure ?_ (he t ht)⟩
      rw [h1, h2]
      cases t <;> rfl
    · cases t with
      | true => exact ⟨_, by simpa using hs, .pure hy (he true ht)⟩
      | false => exact ⟨_, by simpa using hs, .pure hz (he false ht)⟩
  · exact hs.elim

theorem sound_nilCheck (h : Rel x σ ρ a w) {y : Operand} (ho : o.op = .nilCheck y) (hs : still ty o σ K) : ∃ V, K V ∧ StillOk P x σ ρ a w o V := by
  simp only [still, ho] at hs
  have hy := ev_rel h y
  have key : ∀ V, VRel w (x.U σ.ob ρ) σ.ob ρ (a.eval y) V → (∃ ad, a.eval y = .pointer (some ad)) → StillOk P x σ ρ a w o V := by
    intro V hV ⟨ad, had⟩
    refine .pure hV ?_
    unfold execOp; rw [ho]; simp only [had]
  split at hs
  · rename_i i off he; rw [he] at hy
    obtain ⟨b, h1, h2, h3⟩ := hy
    exact ⟨_, hs, key _ ⟨b, h1, h2, h3⟩ ⟨_, h2⟩⟩
  · rename_i cs he; rw [he] at hy
    obtain ⟨ad, h1, h2⟩ := hy
    exact ⟨_, hs, key _ ⟨ad, h1, h2⟩ ⟨_, h1⟩⟩
  · rename_i i cs he; rw [he] at hy
    obtain ⟨ad, h1, h2⟩ := hy
    exact ⟨_, hs, key _ ⟨ad, h1, h2⟩ ⟨_, h1⟩⟩
  · rename_i i j off he; rw [he] at hy
    obtain ⟨g, n, cap, ty, ks, rows, h1, h2, h3⟩ := hy
    exact ⟨_, hs, key _ ⟨g, n, cap, ty, ks, rows, h1, h2, h3⟩ ⟨_, h3⟩⟩
  · exact hs.elim

theorem sound_not (h : Rel x σ ρ a w) {t : TypeId} {y : Operand} (ho : o.op = .unOp .not t y) (hs : still ty o σ K) : ∃ V, K V ∧ StillOk P x σ ρ a w o V := by
  simp only [still, ho] at hs
  have hy := ev_rel h y
  split at hs
  · rename_i b he; rw [he] at hy
    refine ⟨_, hs, .pure rfl ?_⟩
    unfold execOp; rw [ho]; simp only [hy.one_bool]; rfl
  · exact hs.elim
theorem sound_neg (h : Rel x σ ρ a w) {t : TypeId} {y : Operand} (ho : o.op = .unOp .neg t y) (hs : still ty o σ K) : ∃ V, K V ∧ StillOk P x σ ρ a w o V := by
  simp only [still, ho] at hs
  have hy := ev_rel h y
  split at hs
  · rename_i k n he; rw [he] at hy
    refine ⟨_, hs, .pure rfl ?_⟩
    unfold execOp; rw [ho]; simp only [hy.one_int]; rfl
  · exact hs.elim

theorem run_equalIn_bool {t : TypeId} (hu : P.underlying t = some .bool) (p q : Bool) (d : Nat) (w : World) : (Op.equalIn (d + 1) t (.bool p) (.bool q)).run P w = .ok (p == q) w := by
  simp only [Op.equalIn, Sem.run_bind, run_underlying hu, Result.andThen_ok, Sem.run_pure]
/-- numbers that are compared -/
def intsV (l : List (IntKind × Int)) : List Value := l.map fun p => .int p.1 p.2
theorem eqP_inv {U : Nat → Prop} {ob : List (Nat × Ob)} {ρ : Nat → Value} {w : World} : ∀ {ss ts : List Sc} {K : (p : Prop) → Decidable p → Prop}, eqP ss ts K → ∀ {us vs : List Value}, All2 (SRel w U ob ρ) us ss → All2 (SRel w U ob ρ) vs ts →
    ∃ l m : List (IntKind × Int), us = intsV l ∧ vs = intsV m ∧ l.length = m.length ∧ l.map (·.1) = m.map (·.1) ∧ ∃ p d, K p d ∧ (p ↔ l = m) := by
  intro ss
  induction ss with
  | nil => intro ts K h; cases ts <;> simp [eqP] at h
  | cons s ss ih =>
    intro ts K h us vs hu hv
    cases ts with
    | nil => cases s <;> cases ss <;> simp [eqP] at h
    | cons t ts =>
      obtain ⟨u, us', rfl, hu1, hu2⟩ := hu.cons_right
      obtain ⟨v, vs', rfl, hv1, hv2⟩ := hv.cons_right
      cases s with
      | int k a =>
        cases t with
        | int k' b =>
          have hu1 : u = .int k a := hu1
          have hv1 : v = .int k' b := hv1
          subst hu1; subst hv1
          cases ss with
          | nil =>
            cases ts with
            | nil =>
              simp only [eqP] at h
              obtain ⟨rfl, h⟩ := h
              obtain rfl := hu2.nil_right
              obtain rfl := hv2.nil_right
              exact ⟨[(k, a)], [(k, b)], rfl, rfl, rfl, rfl, _, _, h, by simp⟩
            | cons t' ts' => simp [eqP] at h
          | cons s' ss' =>
            cases ts with
            | nil => simp [eqP] at h
            | cons t' ts' =>
              simp only [eqP] at h
              obtain ⟨rfl, h⟩ := h
              obtain ⟨l, m, rfl, rfl, hl, hk, p, d, hK, hp⟩ := ih h hu2 hv2
              exact ⟨(k, a) :: l, (k, b) :: m, rfl, rfl, by simp [hl], by simp [hk], _, _, hK, by simp [hp]⟩
        | _ => cases ss <;> cases ts <;> simp [eqP] at h
      | _ => cases ss <;> cases ts <;> simp [eqP] at h
theorem run_eqFields_ints {d : Nat} {w : World} : ∀ {fs : List Field} {ks : List Kd} {j : Nat}, eqFB P fs ks j = true → ∀ (pre pre' l m : List (IntKind × Int)), pre.length = j → pre'.length = j → l.length = ks.length → l.length = m.length → l.map (·.1) = m.map (·.1) →
    (Op.eqFields (d + 1) (intsV (pre ++ l)).toArray (intsV (pre' ++ m)).toArray fs).run P w = .ok (decide (l = m)) w := by
  intro fs
  induction fs with
  | nil =>
    intro ks j h pre pre' l m _ _ hl hlm _
    cases ks with
    | nil =>
      obtain rfl := List.eq_nil_of_length_eq_zero hl
      obtain rfl := List.eq_nil_of_length_eq_zero (hlm.symm.trans hl)
      simp [Op.eqFields]
    | cons k ks => simp [eqFB] at h
  | cons f fs ih =>
    intro ks j h pre pre' l m hp hp' hl hlm hkm
    cases ks with
    | nil => simp [eqFB] at h
    | cons k ks =>
      cases k with
      | int k =>
        simp only [eqFB, Bool.and_eq_true, bne_iff_ne, beq_iff_eq, Bool.not_eq_true'] at h
        obtain ⟨⟨⟨⟨h1, h2⟩, h3⟩, h4⟩, h5⟩ := h
        cases l with
        | nil => simp at hl
        | cons x l =>
          cases m with
          | nil => simp at hlm
          | cons y m =>
            obtain ⟨kx, nx⟩ := x
            obtain ⟨ky, ny⟩ := y
            simp only [List.map_cons, List.cons.injEq] at hkm
            obtain ⟨rfl, hkm⟩ := hkm
            split at h3
            · rename_i k' hu
              have e1 : (intsV (pre ++ (kx, nx) :: l)).toArray[f.offset]? = some (.int kx nx) := by rw [h2]; simp [intsV, ← hp]
              have e2 : (intsV (pre' ++ (kx, ny) :: m)).toArray[f.offset]? = some (.int kx ny) := by rw [h2]; simp [intsV, ← hp']
              simp only [Op.eqFields, if_pos h1, Sem.run_bind]
              rw [run_part_one hu h4 e1, Result.andThen_ok, run_part_one hu h4 e2, Result.andThen_ok, run_equalIn_int w d f.type kx k' nx ny hu, Result.andThen_ok]
              by_cases hn : nx = ny
              · subst hn
                have := ih h5 (pre ++ [(kx, nx)]) (pre' ++ [(kx, nx)]) l m (by simp [hp]) (by simp [hp']) (by simpa using hl) (by simpa using hlm) hkm
                simp only [List.append_assoc, List.singleton_append] at this
                simp [this]
              · simp [hn]
            · cases h3
      | _ => simp [eqFB] at h
theorem sound_binOp (hty : TyOk P ty) (h : Rel x σ ρ a w) {op : BinOp} {t t' : TypeId} {y z : Operand} (ho : o.op = .binOp op t y z t') (hs : still ty o σ K) : ∃ V, K V ∧ StillOk P x σ ρ a w o V := by
  simp only [still, ho] at hs
  have hy := ev_rel h y
  have hz := ev_rel h z
  split at hs
  · rename_i k p k' q h1 h2; rw [h1] at hy; rw [h2] at hz
    have e1 := hy.one_int
    have e2 := hz.one_int
    obtain ⟨hk, hs⟩ := hs
    have fin : ∀ (v : Value) (V : V), VRel w (x.U σ.ob ρ) σ.ob ρ v V → (∀ w', (Go.binOp op t (.int k p) (.int k' q)).run P w' = .ok v w') → StillOk P x σ ρ a w o V := by
      intro v V hv hr
      refine ⟨v, hv, fun w' _ => ?_⟩
      unfold execOp; rw [ho]
      simp only [e1, e2, Sem.run_bind, eqGuard_at_int, Sem.run_pure, Result.andThen_ok, hr]
    cases op with
    | shl =>
      simp only [intB] at hs
      obtain ⟨⟨h0, h3⟩, hs⟩ := hs
      exact ⟨_, hs, fin _ _ rfl fun w' => by rw [binOp_shl, shift_shl k k' p q h0 h3]; rfl⟩
    | shr =>
      simp only [intB] at hs
      obtain ⟨⟨h0, h3⟩, hs⟩ := hs
      exact ⟨_, hs, fin _ _ rfl fun w' => by rw [binOp_shr, shift_shr k k' p q h0 h3]; rfl⟩
    | quo =>
      obtain rfl : k = k' := by simpa using hk
      simp only [intB] at hs
      exact ⟨_, hs.2, fin _ _ rfl fun w' => by rw [binOp_quo]; simp [Op.intDiv, hs.1]⟩
    | rem =>
      obtain rfl : k = k' := by simpa using hk
      simp only [intB] at hs
      exact ⟨_, hs.2, fin _ _ rfl fun w' => by rw [binOp_rem]; simp [Op.intDiv, hs.1]⟩
    | add => obtain rfl : k = k' := by simpa using hk
             exact ⟨_, hs, fin _ _ rfl fun w' => by rw [binOp_add]; rfl⟩
    | sub => obtain rfl : k = k' := by simpa using hk
             exact ⟨_, hs, fin _ _ rfl fun w' => by rw [binOp_sub]; rfl⟩
    | mul => obtain rfl : k = k' := by simpa using hk
             exact ⟨_, hs, fin _ _ rfl fun w' => by rw [binOp_mul]; rfl⟩
    | and => obtain rfl : k = k' := by simpa using hk
             exact ⟨_, hs, fin _ _ rfl fun w' => by rw [binOp_and]; rfl⟩
    | or => obtain rfl : k = k' := by simpa using hk
            exact ⟨_, hs, fin _ _ rfl fun w' => by rw [binOp_or]; rfl⟩
    | xor => obtain rfl : k = k' := by simpa using hk
             exact ⟨_, hs, fin _ _ rfl fun w' => by rw [binOp_xor]; rfl⟩
    | andNot => obtain rfl : k = k' := by simpa using hk
                exact ⟨_, hs, fin _ _ rfl fun w' => by rw [binOp_andNot]; rfl⟩
    | eql => obtain rfl : k = k' := by simpa using hk
             exact ⟨_, hs, fin (.bool (decide (p = q))) _ rfl fun w' => by rw [binOp_eql]; rfl⟩
    | neq => obtain rfl : k = k' := by simpa using hk
             exact ⟨_, hs, fin (.bool (!decide (p = q))) _ rfl fun w' => by rw [binOp_neq]; rfl⟩
    | lss => obtain rfl : k = k' := by simpa using hk
             exact ⟨_, hs, fin _ _ rfl fun w' => by rw [binOp_lss]; rfl⟩
    | leq => obtain rfl : k = k' := by simpa using hk
             exact ⟨_, hs, fin _ _ rfl fun w' => by rw [binOp_leq]; rfl⟩
    | gtr => obtain rfl : k = k' := by simpa using hk
             exact ⟨_, hs, fin (.bool (decide (q < p))) _ rfl fun w' => by rw [binOp_gtr]; rfl⟩
    | geq => obtain rfl : k = k' := by simpa using hk
             exact ⟨_, hs, fin (.bool (decide (q ≤ p))) _ rfl fun w' => by rw [binOp_geq]; rfl⟩
  · rename_i p q h1 h2; rw [h1] at hy; rw [h2] at hz
    have e1 := hy.one_bool
    have e2 := hz.one_bool
    split at hs
    · rename_i ks by' hl
      obtain ⟨i, ds, hi, hu, _, _, _, hsh⟩ := tdB.info (hty.get hl)
      obtain rfl := shB.bool hsh
      have hr : ∀ w', (Op.equal t (.bool p) (.bool q)).run P w' = .ok (p == q) w' := by
        intro w'
        exact run_equalIn_bool hu p q 9999 w'
      cases op <;> simp only [boolB] at hs <;> first | exact hs.elim | skip
      · refine ⟨_, hs, _, rfl, fun w' _ => ?_⟩
        unfold execOp; rw [ho]
        simp only [e1, e2, Sem.run_bind, eqGuard_at_bool, Sem.run_pure, Result.andThen_ok, Go.binOp, hr]
      · refine ⟨_, hs, _, rfl, fun w' _ => ?_⟩
        unfold execOp; rw [ho]
        simp only [e1, e2, Sem.run_bind, eqGuard_at_bool, Sem.run_pure, Result.andThen_ok, Go.binOp, hr]
    · exact hs.elim
  · rename_i ss ts h1 h2; rw [h1] at hy; rw [h2] at hz
    split at hs
    · rename_i flds ks by' hl
      obtain ⟨hks, hlen, hs⟩ := hs
      obtain ⟨us, hus, hu⟩ := hy
      obtain ⟨vs, hvs, hv⟩ := hz
      obtain ⟨hp1, hp2, fs, hfs, hfb⟩ := tdB.eqs (hty.get hl) rfl hks
      have hfo : P.fieldsOf t = fs := by simp only [Program.fieldsOf, hfs]
      have hun : P.underlying t = some (.struct (P.fieldsOf t)) := by rw [hfo]; exact hfs
      have key : ∀ (l m : List (IntKind × Int)), us = intsV l → vs = intsV m → l.length = m.length → l.map (·.1) = m.map (·.1) → ∀ w', (Op.equalIn 10000 t (.agg us.toArray) (.agg vs.toArray)).run P w' = .ok (decide (l = m)) w' := by
        intro l m e1 e2 hlm hkm w'
        rw [run_equalIn_struct w' 9999 t _ _ hun hp1, hfo, e1, e2]
        have := run_eqFields_ints (d := 9998) (w := w') hfb [] [] l m rfl rfl (by rw [← hlen, ← hu.1, e1]; simp [intsV]) hlm hkm
        simpa using this
      cases op <;> simp only [eqS] at hs <;> first | exact hs.elim | skip
      · obtain ⟨l, m, e1, e2, hlm, hkm, p, d, hK, hp⟩ := eqP_inv hs hu hv
        refine ⟨_, hK, _, rfl, fun w' _ => ?_⟩
        unfold execOp; rw [ho]
        simp only [hus, hvs, Sem.run_bind, run_eqGuard_agg w' _ t y z _ _ hp2, run_eql_struct, key l m e1 e2 hlm hkm, Result.andThen_ok]
        rw [show (decide (l = m)) = @decide p d from by by_cases hq : p <;> simp [hq, ← hp]]
        rfl
      · obtain ⟨l, m, e1, e2, hlm, hkm, p, d, hK, hp⟩ := eqP_inv hs hu hv
        refine ⟨_, hK, _, rfl, fun w' _ => ?_⟩
        unfold execOp; rw [ho]
        simp only [hus, hvs, Sem.run_bind, run_eqGuard_agg w' _ t y z _ _ hp2, run_neq_struct, key l m e1 e2 hlm hkm, Result.andThen_ok]
        rw [show (decide (l = m)) = @decide p d from by by_cases hq : p <;> simp [hq, ← hp]]
        rfl
    · exact hs.elim
  · exact hs.elim

theorem sound_convert (hty : TyOk P ty) (h : Rel x σ ρ a w) {s t : TypeId} {y : Operand} (ho : o.op = .convert s t y) (hs : still ty o σ K) : ∃ V, K V ∧ StillOk P x σ ρ a w o V := by
  simp only [still, ho] at hs
  have hy := ev_rel h y
  split at hs
  · rename_i k n k' ks by' he hl; rw [he] at hy
    obtain ⟨hsrc, hs⟩ := hs
    obtain ⟨d, hd⟩ := Option.isSome_iff_exists.1 hsrc
    obtain ⟨i, ds, hi, hu, _, _, _, hsh⟩ := tdB.info (hty.get hl)
    obtain ⟨i', ds', hi', hu', _, _, _, hsh'⟩ := tdB.info (hty.get hd)
    obtain rfl := shB.int hsh
    refine ⟨_, hs, .int k' (k'.wrap n), rfl, fun w' _ => ?_⟩
    unfold execOp; rw [ho]
    simp only [hy.one_int, Sem.run_bind, convert, run_underlying hu, run_underlying hu', Result.andThen_ok]
    rfl
  · exact hs.elim

theorem cut_sound {U : Nat → Prop} {g : Bool} {n : Nat} {ss : List Sc} {vs : List Value} (hr : All2 (SRel w U σ.ob ρ) vs ss) (h : cut g n ss K) :
    (g = true ∧ ∃ V, K V ∧ (vs.take n).length = n ∧ VRel w U σ.ob ρ (.agg (vs.take n).toArray) V) ∨ (g = false ∧ n = 1 ∧ ∃ V v, K V ∧ vs[0]? = some v ∧ VRel w U σ.ob ρ v V) := by
  unfold cut at h
  have ht := hr.take n
  split at h
  · rename_i l heq
    left
    exact ⟨rfl, _, h.2, by rw [ht.1]; exact h.1, _, rfl, ht⟩
  · rename_i s heq
    right
    obtain ⟨rfl, hk⟩ := h
    obtain ⟨v, hv, hvs⟩ := ht.get (j := 0) (y := s) (by rw [heq]; rfl)
    refine ⟨rfl, rfl, _, v, hk, ?_, hvs⟩
    simpa [List.getElem?_take] using hv
  · exact h.elim

theorem sound_field (hty : TyOk P ty) (h : Rel x σ ρ a w) {t : TypeId} {y : Operand} {f : Nat} (ho : o.op = .field t y f) (hs : still ty o σ K) : ∃ V, K V ∧ StillOk P x σ ρ a w o V := by
  simp only [still, ho] at hs
  have hy := ev_rel h y
  split at hs
  · rename_i ss flds ks by' he hl; rw [he] at hy
    obtain ⟨vs, hvs, hr⟩ := hy
    obtain ⟨i, ds, hi, hu, _, _, _, hsh⟩ := tdB.info (hty.get hl)
    obtain ⟨fs, rfl, hf⟩ := shB.struct hsh
    split at hs
    · rename_i off n g hfl
      obtain ⟨fd, h1, h2, h3, h4, h5⟩ := fldsB.get hf hfl
      obtain ⟨du, hdu⟩ := Option.isSome_iff_exists.1 h5
      obtain ⟨fi, hfi, hfs⟩ : ∃ fi, P.info? fd.type = some fi ∧ fi.size = n := by
        cases hq : P.info? fd.type with
        | none => rw [hq] at h3; cases h3
        | some fi => rw [hq] at h3; simp at h3; exact ⟨fi, rfl, h3⟩
      have hfa : fs[f]? = some fd := by simpa using h1
      have hex : ∀ w', (execOp a.eval o).run P w' = ((part fd.type vs.toArray off).run P w').andThen fun v w => .ok (.value v) w := by
        intro w'
        unfold execOp; rw [ho]
        simp only [hvs, Sem.run_bind, Instr.field, run_underlying hu, Result.andThen_ok, hfa, asAgg, Sem.run_pure, h2]
      rcases cut_sound (hr.drop off) hs with ⟨rfl, V, hK, hlen, hV⟩ | ⟨rfl, rfl, V, v, hK, hv, hV⟩
      · refine ⟨V, hK, _, hV, fun w' _ => ?_⟩
        rw [hex, run_part_agg hfi hdu h4, hfs, Result.andThen_ok]
        congr 3
        apply Array.ext'
        simp [List.extract_eq_take_drop]
      · refine ⟨V, hK, v, hV, fun w' _ => ?_⟩
        rw [hex, run_part_one hdu h4 (v := v) (by simpa using hv), Result.andThen_ok]
    · exact hs.elim
  · exact hs.elim
end
end Go.Vq
