/- Part S of the small logic: a whole function by what its code asks, the theorem. No conditions. -/
import Derived.Test.YtcibheinilkcoaaVcR
namespace Go.Vq
open Go.RowKit

def valOf : List Value → Value
  | [v] => v
  | vs => .tuple vs.toArray
def entryV : Bool × List C → V
  | (true, cs) => .agg (cs.map C.toS)
  | (false, [c]) => .one c.toS
  | _ => .one .any
def entry (n : Nat) : List (Bool × List C) → List (Nat × V)
  | [] => []
  | p :: r => (n, entryV p) :: entry (n + 1) r
theorem entry_get : ∀ {cs : List (Bool × List C)} {n t : Nat} {V : V}, look (entry n cs) t = some V → ∃ i p, t = n + i ∧ cs[i]? = some p ∧ V = entryV p
  | [], n, t, V, h => by simp [entry, look] at h
  | p :: r, n, t, V, h => by
    simp only [entry, look_cons] at h
    split at h
    · rename_i hn; cases h; exact ⟨0, p, by omega, rfl, rfl⟩
    · obtain ⟨i, q, h1, h2, h3⟩ := entry_get h
      exact ⟨i + 1, q, by omega, by simpa using h2, h3⟩

section
variable {P : Program} {x : Cx} {σ : St} {ρ : Nat → Value} {a : Act} {w : World}
theorem entryV_rel {S U : Nat → Prop} {ob : List (Nat × Ob)} {v : Value} {p : Bool × List C} (h : CapRel w S v p) (hS : ∀ b, S b → U b) : VRel w U ob ρ v (entryV p) := by
  obtain ⟨g, cs⟩ := p
  cases g with
  | true =>
    obtain ⟨vs, rfl, h⟩ := h
    refine ⟨vs, rfl, h.map_right _ fun u _ c _ hr => C.toS_rel hr (fun b _ => hS b)⟩
  | false =>
    match cs, h with
    | [c], h => exact C.toS_rel h (fun b _ => hS b)

theorem run_loadVar_agg {t : TypeId} {i : TypeInfo} {ds : TypeDesc} (hi : P.info? t = some i) (hu : P.underlying t = some ds) (hg : aggB P t = true) {a : Addr} {vs : List Value} (hl : vs.length = i.size)
    (hc : ∀ (j : Nat) v, vs[j]? = some v → w.cell? (a.add j) = some v) : (loadVar t a).run P w = .ok (.agg vs.toArray) w := by
  simp only [loadVar, Sem.run_bind, run_isAgg' hu, hg, Result.andThen_ok, if_true, run_sizeOf' hi, ← hl, run_loadCells_list w a vs hc, Sem.run_pure]
def resRun (tmps : Array Value) : ResultVar → Sem Value
  | .tmp t => pure (tmps.getD t undef)
  | .cell a t => do loadVar t (← asAddr (tmps.getD a undef))
theorem rv_run {ty : List (Nat × Td)} (hty : TyOk P ty) (h : Rel x σ ρ a w) {y : RV} (hy : y.okB ty = true) {V : V} (hv : rv σ y = some V) :
    ∃ v, VRel w (x.U σ.ob ρ) σ.ob ρ v V ∧ (resRun a.tmps y.res).run P w = .ok v w := by
  cases y with
  | tmp t =>
    simp only [rv, Option.some.injEq] at hv
    subst hv
    exact ⟨_, ev_rel h (.tmp t), rfl⟩
  | cell s t n =>
    simp only [rv] at hv
    have he := ev_rel h (.tmp s)
    split at hv
    · rename_i id e; rw [e] at he
      obtain ⟨b, e1, e2, e3⟩ := he
      split at hv
      · rename_i ss hob
        split at hv
        · rename_i hn
          cases hv
          have hn := Nat.eq_of_beq_eq_true hn
          simp only [RV.okB] at hy
          split at hy
          · rename_i d hl
            simp only [Bool.and_eq_true] at hy
            have hd := Nat.eq_of_beq_eq_true hy.2
            obtain ⟨i, ds, hi, hu, hsz, _, _, hsh⟩ := tdB.info (hty.get hl)
            have hg := shB.agg hu hsh
            obtain ⟨b', cs, ty', hb, hgc, hr⟩ := h.objs id _ hob
            rw [e1] at hb
            simp only [Value.pointer.injEq, Option.some.injEq, Addr.mk.injEq, and_true] at hb
            subst hb
            refine ⟨.agg cs.toArray, ⟨cs, rfl, hr.mono fun _ _ h => h.2⟩, ?_⟩
            have e2' : a.tmps.getD s undef = .pointer (some ⟨b, 0, none⟩) := e2
            simp only [resRun, RV.res, e2', asAddr, Sem.run_bind, Sem.run_pure, Result.andThen_ok]
            refine run_loadVar_agg hi hu (by rw [hg, hy.1]) (by rw [hr.1, hn, hsz, hd]) fun j v hj => ?_
            have : (⟨b, 0, none⟩ : Addr).add j = ⟨b, j, none⟩ := by unfold Addr.add; split <;> simp_all
            rw [this]
            simp [World.cell?, hgc, hj]
          · cases hy
        · cases hv
      · cases hv
    · cases hv
theorem run_resultsL {fn : Func} {ys : List RV} (hres : fn.results = (ys.map RV.res).toArray) (tmps : Array Value) :
    results fn tmps = (do let vs ← (ys.map RV.res).toArray.mapM (resRun tmps); pure (if h : vs.size = 1 then vs[0] else .tuple vs)) := by
  unfold results
  rw [hres]
  congr 1
theorem run_results1 {fn : Func} {y : RV} {v : Value} {tmps : Array Value} (h : fn.results = #[y.res]) (h1 : (resRun tmps y.res).run P w = .ok v w) : (results fn tmps).run P w = .ok v w := by
  rw [run_resultsL (ys := [y]) (by simpa using h)]
  simp [h1]
theorem run_results2 {fn : Func} {y z : RV} {v u : Value} {tmps : Array Value} (h : fn.results = #[y.res, z.res]) (h1 : (resRun tmps y.res).run P w = .ok v w) (h2 : (resRun tmps z.res).run P w = .ok u w) : (results fn tmps).run P w = .ok (.tuple #[v, u]) w := by
  rw [run_resultsL (ys := [y, z]) (by simpa using h)]
  simp [h1, h2]
theorem run_results3 {fn : Func} {y z q : RV} {v u s : Value} {tmps : Array Value} (h : fn.results = #[y.res, z.res, q.res]) (h1 : (resRun tmps y.res).run P w = .ok v w) (h2 : (resRun tmps z.res).run P w = .ok u w) (h3 : (resRun tmps q.res).run P w = .ok s w) : (results fn tmps).run P w = .ok (.tuple #[v, u, s]) w := by
  rw [run_resultsL (ys := [y, z, q]) (by simpa using h)]
  simp [h1, h2, h3]
theorem rvs_run {ty : List (Nat × Td)} (hty : TyOk P ty) (h : Rel x σ ρ a w) : ∀ {ys : List RV} {Vs : List V}, ys.all (RV.okB ty) = true → rvs σ ys = some Vs →
    ∃ vs : List Value, All2 (VRel w (x.U σ.ob ρ) σ.ob ρ) vs Vs ∧ All2 (fun v y => (resRun a.tmps (RV.res y)).run P w = .ok v w) vs ys
  | [], Vs, _, hv => by
    simp only [rvs, Option.some.injEq] at hv; subst hv
    exact ⟨[], All2.nil, All2.nil⟩
  | y :: ys, Vs, hy, hv => by
    simp only [List.all_cons, Bool.and_eq_true] at hy
    simp only [rvs] at hv
    split at hv
    · rename_i v1 vs1 h1 h2
      cases hv
      obtain ⟨v, a1, a2⟩ := rv_run hty h hy.1 h1
      obtain ⟨vs, b1, b2⟩ := rvs_run hty h hy.2 h2
      exact ⟨v :: vs, b1.cons a1, b2.cons a2⟩
    · cases hv
/-- the results: their values -/
theorem res_run {ty : List (Nat × Td)} (hty : TyOk P ty) (h : Rel x σ ρ a w) {fn : Func} {ts : List RV} {Vs : List V} (hy : ts.all (RV.okB ty) = true) (hv : rvs σ ts = some Vs) (hres : fn.results = (ts.map RV.res).toArray) (hl : ts.length = 1 ∨ ts.length = 2 ∨ ts.length = 3) :
    ∃ vs : List Value, All2 (VRel w (x.U σ.ob ρ) σ.ob ρ) vs Vs ∧ (results fn a.tmps).run P w = .ok (valOf vs) w := by
  obtain ⟨vs, h1, h2⟩ := rvs_run hty h hy hv
  refine ⟨vs, h1, ?_⟩
  match ts, hl, hres, vs, h2 with
  | [t], _, hres, [v], h2 => exact run_results1 hres h2.head
  | [t, u], _, hres, [v, v2], h2 => exact run_results2 hres h2.head h2.tail.head
  | [t, u, s], _, hres, [v, v2, v3], h2 => exact run_results3 hres h2.head h2.tail.head h2.tail.tail.head
  | [], hl, _, _, _ => simp at hl
  | _ :: _ :: _ :: _ :: _, hl, _, _, _ => simp at hl
  | [_], _, _, [], h2 => have := h2.1; simp at this
  | [_], _, _, _ :: _ :: _, h2 => have := h2.1; simp at this
  | [_, _], _, _, [], h2 => have := h2.1; simp at this
  | [_, _], _, _, [_], h2 => have := h2.1; simp at this
  | [_, _], _, _, _ :: _ :: _ :: _, h2 => have := h2.1; simp at this
  | [_, _, _], _, _, [], h2 => have := h2.1; simp at this
  | [_, _, _], _, _, [_], h2 => have := h2.1; simp at this
  | [_, _, _], _, _, [_, _], h2 => have := h2.1; simp at this
  | [_, _, _], _, _, _ :: _ :: _ :: _ :: _, h2 => have := h2.1; simp at this

theorem fin_ret (h : Rel x σ ρ a w) (hM : x.M = NoM) (hX : x.hv = false) {Vs : List V} {vs : List Value} (hv : All2 (VRel w (x.U σ.ob ρ) σ.ob ρ) vs Vs) {r : Rs} (hf : fin σ.ob Vs r) :
    Ret x.S x.w0 w (valOf vs) r := by
  have obsrow : ∀ (r : Rs) j o, look (r.O 0) j = some o → ObOf false o := fun r j o ho => (Rs.O_row r 0 j o ho).mono (fun e => by cases e)
  have isS : ∀ {O : List (Nat × Ob)} {m : List (Nat × Option Nat)} (hn : ∀ j, look O j = none → look m j = none) j q, look m j = some q → look m j = some q ∧ (look O j).isSome := fun hn j q hq => by
    refine ⟨hq, ?_⟩
    cases hz : look _ j with
    | some o => rfl
    | none => have := hn j hz; rw [hq] at this; cases this
  cases r with
  | one c =>
    simp only [fin] at hf
    split at hf
    · rename_i s
      obtain ⟨v, vs', rfl, h1, h2⟩ := hv.cons_right
      obtain rfl := h2.nil_right
      have hnd : nodupB (ids (finM 0 [s] [c])) = true := by
        cases s <;> cases c <;> rfl
      obtain ⟨hr, hU⟩ := h.out (O := obsOf 0 [c]) (m := finM 0 [s] [c]) (y := ⟨x.S, x.w0, NoM, noF, false⟩) ⟨rfl, rfl, hM.symm, hX.symm⟩ (fun j o ho => finM_get hf ho) (obsrow (.one c)) hnd (fun j v hv => by cases hv)
      have h3 := finS_rel (d := 0) (ob' := obsOf 0 [c]) (m := finM 0 [s] [c]) hU hf (isS fun j hj => finM_none hf hj) (All2.nil.cons (x := v) h1)
      refine ⟨_, hr, ?_⟩
      obtain ⟨s', hs'⟩ : ∃ s', scsOf 0 [c] = [s'] := by cases c <;> exact ⟨_, rfl⟩
      simp only [Rs.V, hs']
      rw [hs'] at h3
      exact h3.head
    · exact hf.elim
  | agg cs =>
    simp only [fin] at hf
    split at hf
    · rename_i ss
      obtain ⟨hf, hnd⟩ := hf
      obtain ⟨v, vs', rfl, h1, h2⟩ := hv.cons_right
      obtain rfl := h2.nil_right
      obtain ⟨us, rfl, h1⟩ := h1
      obtain ⟨hr, hU⟩ := h.out (O := obsOf 0 cs) (m := finM 0 ss cs) (y := ⟨x.S, x.w0, NoM, noF, false⟩) ⟨rfl, rfl, hM.symm, hX.symm⟩ (fun j o ho => finM_get hf ho) (obsrow (.agg cs)) hnd (fun j v hv => by cases hv)
      have h3 := finS_rel (d := 0) (ob' := obsOf 0 cs) (m := finM 0 ss cs) hU hf (isS fun j hj => finM_none hf hj) h1
      exact ⟨_, hr, us, rfl, h3⟩
    · exact hf.elim
  | tup ps =>
    obtain ⟨hne, hf, hnd⟩ := hf
    obtain ⟨hr, hU⟩ := h.out (O := tupO 0 ps) (m := tupM 0 Vs ps) (y := ⟨x.S, x.w0, NoM, noF, false⟩) ⟨rfl, rfl, hM.symm, hX.symm⟩ (fun j o ho => tupM_get hf ho) (obsrow (.tup ps)) hnd (fun j v hv => by cases hv)
    have h3 := tup_rel (d := 0) (ob' := tupO 0 ps) (m := tupM 0 Vs ps) hU hf (isS fun j hj => tupM_none hf hj) hv
    refine ⟨_, hr, vs, ?_, h3⟩
    have hl := hv.1
    match vs, hl with
    | [], _ => rfl
    | [v], hl => exact absurd hl.symm hne
    | _ :: _ :: _, _ => rfl

/-- A WHOLE FUNCTION: what its code asks is enough -/
theorem fn_sound {ty : List (Nat × Td)} {Γ : Ctx} (kp : List Nat) {f : Nat} {fn : Func} {c : Code} {ts : List RV} {cs : List (Bool × List C)} {r : Rs} (hm : P.follows .mixedOrders = true) (hty : TyOk P ty) (hΓ : ∀ x, CtxOk P x Γ)
    (hf : P.funcs[f]? = some fn) (hb : fn.body = some c) (hok : okB ty fn.ntmps c = true) (hrv : ts.all (RV.okB ty) = true) (hres : fn.results = (ts.map RV.res).toArray) (hl : ts.length = 1 ∨ ts.length = 2 ∨ ts.length = 3) (hn : cs.length ≤ fn.ntmps)
    (h : vc Γ ty kp c (finK ts r []) ⟨entry 0 cs, []⟩) : Fn P f cs r := by
  intro S vals w ha
  refine calls_of_wp hf hb ?_
  have hlen : vals.length = cs.length := ha.1
  have hrel : Rel ⟨S, w, NoM, noF, false⟩ ⟨entry 0 cs, []⟩ (fun _ => undef) { tmps := vals.toArray ++ Array.replicate (fn.ntmps - vals.toArray.size) undef, defers := [] } w := by
    refine ⟨fun t V hV => ?_, fun j o ho => by simp [look] at ho, fun i j oi oj b hi => by simp [look] at hi, fun i o b hi => by simp [look] at hi, Grow.refl _, rfl, fun j v hv => by cases hv⟩
    obtain ⟨i, p, rfl, hp, rfl⟩ := entry_get hV
    obtain ⟨v, hv, hvr⟩ := ha.get hp
    have hil : i < vals.length := (List.getElem?_eq_some_iff.1 hv).1
    have e : (vals.toArray ++ Array.replicate (fn.ntmps - vals.toArray.size) undef).getD (0 + i) undef = v := by
      rw [Nat.zero_add, Array.getD_eq_getD_getElem?, Array.getElem?_append_left (by simpa using hil)]
      simp [hv]
    rw [e]
    exact entryV_rel hvr fun b hb => ⟨.inl hb, fun ⟨j, o, hj, _⟩ => by simp [look] at hj⟩
  have hN : ({ tmps := vals.toArray ++ Array.replicate (fn.ntmps - vals.toArray.size) undef, defers := [] } : Act).tmps.size = fn.ntmps := by
    simp; omega
  refine wp_mono (vc_sound hm hty (hΓ _) c (finK ts r []) _ _ _ w hok hrel hN h) ?_
  have done : ∀ (σ : St) (ρ : Nat → Value) (a : Act) (w' : World), finK ts r [] .normal σ → Rel ⟨S, w, NoM, noF, false⟩ σ ρ a w' → a.defers = [] ∧ ∃ v, (results fn a.tmps).run P w' = .ok v w' ∧ ∃ v', Ending.returned v = .returned v' ∧ Ret S w w' v' r ∧ Ext w w' NoM := by
    intro σ ρ a w' hk hr
    simp only [finK] at hk
    split at hk
    · rename_i Vs hVs
      obtain ⟨vs, h1, h2⟩ := res_run (P := P) hty hr hrv hVs hres hl
      exact ⟨hr.defers, _, h2, _, rfl, fin_ret hr rfl rfl h1 hk.1, hr.grow.toExt⟩
    · exact hk.elim
  intro e a w' hq
  cases e with
  | normal => obtain ⟨σ, ρ, hk, hr, _⟩ := hq; exact done σ ρ a w' hk hr
  | ret => obtain ⟨σ, ρ, hk, hr, _⟩ := hq; exact done σ ρ a w' hk hr
  | exit id => obtain ⟨σ, ρ, hk, hr, _⟩ := hq; exact hk.elim
  | _ => exact hq.elim
end
end Go.Vq
