/- Part Sa of the small logic: a whole function that changes what it is handed, by what its code asks. No conditions. -/
import Derived.Test.YtcibheinilkcoaaVcS
namespace Go.Vq
open Go.RowKit

def entryM (n : Nat) : List (Bool × List Ma) → List (Nat × V)
  | [] => []
  | p :: r => (n, maV (· + 500000) p) :: entryM (n + 1) r
theorem entryM_get : ∀ {cs : List (Bool × List Ma)} {n t : Nat} {V : V}, look (entryM n cs) t = some V → ∃ i p, t = n + i ∧ cs[i]? = some p ∧ V = maV (· + 500000) p
  | [], n, t, V, h => by simp [entryM, look] at h
  | p :: r, n, t, V, h => by
    simp only [entryM, look_cons] at h
    split at h
    · rename_i hn; cases h; exact ⟨0, p, by omega, rfl, rfl⟩
    · obtain ⟨i, q, h1, h2, h3⟩ := entryM_get h
      exact ⟨i + 1, q, by omega, by simpa using h2, h3⟩
def fixM : Nat → List Mo → List (Nat × Option Nat)
  | _, [] => []
  | n, _ :: r => (n, some n) :: fixM (n + 1) r
theorem fixM_get : ∀ (n : Nat) (l : List Mo) (j : Nat), look (fixM n l) j = if n ≤ j ∧ j < n + l.length then some (some j) else none
  | n, [], j => by simp only [fixM, look]; rw [if_neg (by simp <;> omega)]
  | n, o :: r, j => by
    simp only [fixM, look_cons]
    by_cases h : n = j
    · subst h; simp
    · rw [if_neg h, fixM_get (n + 1) r j]
      by_cases h2 : n ≤ j ∧ j < n + (o :: r).length
      · rw [if_pos h2, if_pos (by simp at h2; omega)]
      · rw [if_neg h2, if_neg (by simp at h2; omega)]
theorem finO_get {ob : List (Nat × Ob)} : ∀ {n : Nat} {l : List Mo}, finO ob n l → ∀ k o, l[k]? = some o → look ob (k + n) = some o.ob
  | n, [], _, k, o, h => by simp at h
  | n, x :: r, hf, k, o, h => by
    cases k with
    | zero => simp at h; subst h; simpa using hf.1
    | succ k => simp at h; have := finO_get hf.2 k o h; rwa [show k + (n + 1) = k + 1 + n by omega] at this
theorem ids_app (l m : List (Nat × Option Nat)) : ids (l ++ m) = ids l ++ ids m := by
  induction l with
  | nil => rfl
  | cons p r ih => obtain ⟨k, q⟩ := p; cases q <;> simp [ids, ih]
theorem ids_fixM (n : Nat) (l : List Mo) : ids (fixM n l) = List.range' n l.length := by
  induction l generalizing n with
  | nil => rfl
  | cons o r ih => simp [fixM, ids, ih, List.range'_succ]
theorem nodupB_iff : ∀ {l : List Nat}, nodupB l = true ↔ l.Nodup
  | [] => by simp [nodupB]
  | i :: r => by
    simp only [nodupB, List.nodup_cons]
    split
    · rename_i h
      have := (memN_iff i r).1 h
      simp [this]
    · rename_i h
      have hn : i ∉ r := fun hm => by rw [(memN_iff i r).2 hm] at h; cases h
      simp [hn, nodupB_iff]
theorem Mo.obOf (o : Mo) : ObOf false o.ob := by
  cases o with
  | row ty ks rows => exact .inl ⟨ty, ks, rows, rfl, fun e => by cases e⟩
  | box cs => exact .inr ⟨cs, rfl, fun e => by cases e⟩

section
variable {P : Program} {x : Cx} {σ : St} {ρ : Nat → Value} {a : Act} {w : World}
theorem resM_get {ob : List (Nat × Ob)} {Vs : List V} {r : Rs} {j : Nat} {o : Ob} (hf : fin ob Vs r) (h : look (r.O 0) j = some o) : ∃ q, look (resM Vs r) j = some q ∧ (match q with
    | some id => look ob id = some o
    | none => ∃ ty ks, o = .row ty ks []) := by
  cases r with
  | one c =>
    simp only [fin] at hf
    split at hf
    · exact finM_get hf h
    · exact hf.elim
  | agg cs =>
    simp only [fin] at hf
    split at hf
    · exact finM_get hf.1 h
    · exact hf.elim
  | tup ps => exact tupM_get hf.2.1 h
theorem resM_none {ob : List (Nat × Ob)} {Vs : List V} {r : Rs} {j : Nat} (hf : fin ob Vs r) (h : look (r.O 0) j = none) : look (resM Vs r) j = none := by
  cases r with
  | one c =>
    simp only [fin] at hf
    split at hf
    · exact finM_none hf h
    · exact hf.elim
  | agg cs =>
    simp only [fin] at hf
    split at hf
    · exact finM_none hf.1 h
    · exact hf.elim
  | tup ps => exact tupM_none hf.2.1 h
theorem resM_nodup {ob : List (Nat × Ob)} {Vs : List V} {r : Rs} (hf : fin ob Vs r) : nodupB (ids (resM Vs r)) = true := by
  cases r with
  | one c =>
    simp only [fin] at hf
    split at hf
    · rename_i s; cases s <;> cases c <;> rfl
    · exact hf.elim
  | agg cs =>
    simp only [fin] at hf
    split at hf
    · exact hf.2
    · exact hf.elim
  | tup ps => exact hf.2.2
theorem fin_rel {U U' : Nat → Prop} {ob ob' : List (Nat × Ob)} {ρ : Nat → Value} {m : List (Nat × Option Nat)} (hU : ∀ b, U b → U' b) {Vs : List V} {vs : List Value} {r : Rs} (hf : fin ob Vs r)
    (hm : ∀ j q, look (resM Vs r) j = some q → look m j = some q ∧ (look ob' j).isSome) (hv : All2 (VRel w U ob ρ) vs Vs) : VRel w U' ob' (mapρ m ρ) (valOf vs) (r.V 0) := by
  cases r with
  | one c =>
    simp only [fin] at hf
    split at hf
    · rename_i s
      obtain ⟨v, vs', rfl, h1, h2⟩ := hv.cons_right
      obtain rfl := h2.nil_right
      have h3 := finS_rel (d := 0) (ob' := ob') (m := m) hU hf hm (All2.nil.cons (x := v) h1)
      obtain ⟨s', hs'⟩ : ∃ s', scsOf 0 [c] = [s'] := by cases c <;> exact ⟨_, rfl⟩
      simp only [Rs.V, hs']
      rw [hs'] at h3
      exact h3.head
    · exact hf.elim
  | agg cs =>
    simp only [fin] at hf
    split at hf
    · rename_i ss
      obtain ⟨v, vs', rfl, h1, h2⟩ := hv.cons_right
      obtain rfl := h2.nil_right
      obtain ⟨us, rfl, h1⟩ := h1
      exact ⟨us, rfl, finS_rel (d := 0) (ob' := ob') (m := m) hU hf.1 hm h1⟩
    · exact hf.elim
  | tup ps =>
    obtain ⟨hne, hf, hnd⟩ := hf
    have h3 := tup_rel (d := 0) (ob' := ob') (m := m) hU hf hm hv
    refine ⟨vs, ?_, h3⟩
    have hl := hv.1
    match vs, hl with
    | [], _ => rfl
    | [v], hl => exact absurd hl.symm hne
    | _ :: _ :: _, _ => rfl

/-- A WHOLE FUNCTION that changes what it is handed -/
theorem fnm_sound {ty : List (Nat × Td)} {Γ : Ctx} (kp : List Nat) {f : Nat} {fn : Func} {c : Code} {ts : List RV} {as : List (Bool × List Ma)} {obs os : List Mo} {r : Rs} (hm : P.follows .mixedOrders = true) (hty : TyOk P ty) (hΓ : ∀ x, CtxOk P x Γ)
    (hf : P.funcs[f]? = some fn) (hb : fn.body = some c) (hok : okB ty fn.ntmps c = true) (hrv : ts.all (RV.okB ty) = true) (hres : fn.results = (ts.map RV.res).toArray) (hl : ts.length = 1 ∨ ts.length = 2 ∨ ts.length = 3) (hn : as.length ≤ fn.ntmps)
    (hos : os.length = obs.length) (hne : os ≠ []) (hr0 : ∀ j, (look (r.O 0) j).isSome → j < 500000)
    (h : vc Γ ty kp c (finK ts r os) ⟨entryM 0 as, numb 500000 obs⟩) : FnM P f as obs os r := by
  intro S vals w ρ hR ha
  refine calls_of_wp hf hb ?_
  have hlen : vals.length = as.length := by simpa using ha.1
  have hrel : Rel (cxM S w (numb 500000 obs) ρ) ⟨entryM 0 as, numb 500000 obs⟩ ρ { tmps := vals.toArray ++ Array.replicate (fn.ntmps - vals.toArray.size) undef, defers := [] } w := by
    refine ⟨fun t V hV => ?_, hR.objs, hR.sep, hR.fresh, hR.grow, rfl, hR.fix⟩
    obtain ⟨i, p, rfl, hp, rfl⟩ := entryM_get hV
    obtain ⟨v, hv, hvr⟩ := ha.get (j := i) (y := maV (· + 500000) p) (by simp [hp])
    have hil : i < vals.length := (List.getElem?_eq_some_iff.1 hv).1
    have e : (vals.toArray ++ Array.replicate (fn.ntmps - vals.toArray.size) undef).getD (0 + i) undef = v := by
      rw [Nat.zero_add, Array.getD_eq_getD_getElem?, Array.getElem?_append_left (by simpa using hil)]
      simp [hv]
    rw [e]
    exact hvr
  have hN : ({ tmps := vals.toArray ++ Array.replicate (fn.ntmps - vals.toArray.size) undef, defers := [] } : Act).tmps.size = fn.ntmps := by
    simp; omega
  refine wp_mono (vc_sound hm hty (hΓ _) c (finK ts r os) _ _ _ w hok hrel hN h) ?_
  have done : ∀ (σ : St) (ρ1 : Nat → Value) (a : Act) (w' : World), finK ts r os .normal σ → Rel (cxM S w (numb 500000 obs) ρ) σ ρ1 a w' → a.defers = [] ∧ ∃ v, (results fn a.tmps).run P w' = .ok v w' ∧ ∃ v' ρ', Ending.returned v = .returned v' ∧
      Rel (cxM S w (numb 500000 obs) ρ) ⟨[], r.O 0 ++ numb 500000 os⟩ ρ' ⟨#[], []⟩ w' ∧ VRel w' (Cx.U (cxM S w (numb 500000 obs) ρ) (r.O 0 ++ numb 500000 os) ρ') (r.O 0 ++ numb 500000 os) ρ' v' (r.V 0) := by
    intro σ ρ1 a w' hk hr
    simp only [finK] at hk
    split at hk
    · rename_i Vs hVs
      obtain ⟨hfin, hk⟩ := hk
      have hk : finO σ.ob 500000 os ∧ lowB (ids (resM Vs r)) = true := by
        cases os with
        | nil => exact absurd rfl hne
        | cons o os => exact hk
      obtain ⟨hO, hlow⟩ := hk
      obtain ⟨vs, h1, h2⟩ := res_run (P := P) hty hr hrv hVs hres hl
      have noneO : ∀ j, 500000 ≤ j → look (r.O 0) j = none := fun j hj => by
        cases hq : look (r.O 0) j with
        | none => rfl
        | some o => have := hr0 j (by rw [hq]; rfl); omega
      have hm1 : ∀ j q, look (resM Vs r) j = some q → look (resM Vs r ++ fixM 500000 os) j = some q ∧ (look (r.O 0 ++ numb 500000 os) j).isSome := fun j q hq => by
        refine ⟨by rw [look_append, hq]; rfl, ?_⟩
        cases hz : look (r.O 0) j with
        | some o => rw [look_append, hz]; rfl
        | none => rw [resM_none hfin hz] at hq; cases hq
      have hm2 : ∀ k, k < os.length → look (resM Vs r ++ fixM 500000 os) (k + 500000) = some (some (k + 500000)) := fun k hk => by
        rw [look_append, resM_none hfin (noneO _ (by omega)), fixM_get, if_pos ⟨by omega, by omega⟩]; rfl
      have hA : ∀ j o, look (r.O 0 ++ numb 500000 os) j = some o → ∃ q, look (resM Vs r ++ fixM 500000 os) j = some q ∧ (match q with
          | some id => look σ.ob id = some o
          | none => ∃ ty ks, o = .row ty ks []) := by
        intro j o hj
        rw [look_append] at hj
        cases hz : look (r.O 0) j with
        | some o' =>
          rw [hz] at hj; cases hj
          obtain ⟨q, hq, hq2⟩ := resM_get hfin hz
          exact ⟨q, (hm1 j q hq).1, hq2⟩
        | none =>
          rw [hz] at hj
          have hj : look (numb 500000 os) j = some o := by simpa using hj
          obtain ⟨h5, mo, hmo, rfl⟩ := numb_some hj
          have hk : j - 500000 < os.length := (List.getElem?_eq_some_iff.1 hmo).1
          have e := hm2 _ hk
          have e2 := finO_get hO _ mo hmo
          rw [Nat.sub_add_cancel h5] at e e2
          exact ⟨_, e, e2⟩
      have hB : ∀ j o, look (r.O 0 ++ numb 500000 os) j = some o → ObOf false o := by
        intro j o hj
        rw [look_append] at hj
        cases hz : look (r.O 0) j with
        | some o' => rw [hz] at hj; cases hj; exact (Rs.O_row r 0 j o hz).mono (fun e => by cases e)
        | none =>
          rw [hz] at hj
          obtain ⟨_, mo, _, rfl⟩ := numb_some (show look (numb 500000 os) j = some o by simpa using hj)
          exact mo.obOf
      have hC : nodupB (ids (resM Vs r ++ fixM 500000 os)) = true := by
        rw [nodupB_iff, ids_app, ids_fixM, List.nodup_append]
        refine ⟨nodupB_iff.1 (resM_nodup hfin), List.nodup_range', fun i hi j hj e => ?_⟩
        subst e
        have h3 : i < 500000 := Nat.le_of_ble_eq_true (List.all_eq_true.1 hlow i hi)
        have := List.mem_range'_1.1 hj
        omega
      have hD : ∀ j v, (cxM S w (numb 500000 obs) ρ).F j = some v → (cxM S w (numb 500000 obs) ρ).F j = some v ∧ look (resM Vs r ++ fixM 500000 os) j = some (some j) ∧ (look (r.O 0 ++ numb 500000 os) j).isSome := by
        intro j v hv
        have hv' := hv
        simp only [cxM] at hv'
        split at hv'
        · rename_i hs
          obtain ⟨o, ho⟩ := Option.isSome_iff_exists.1 hs
          obtain ⟨h5, mo, hmo, _⟩ := numb_some ho
          have hk : j - 500000 < os.length := by rw [hos]; exact (List.getElem?_eq_some_iff.1 hmo).1
          have e := hm2 _ hk
          rw [Nat.sub_add_cancel h5] at e
          refine ⟨hv, e, ?_⟩
          rw [look_append, noneO j h5, numb_get, if_pos h5, List.getElem?_eq_getElem hk]; rfl
        · cases hv'
      obtain ⟨hrel', hU⟩ := hr.out (O := r.O 0 ++ numb 500000 os) (m := resM Vs r ++ fixM 500000 os) (y := cxM S w (numb 500000 obs) ρ) ⟨rfl, rfl, rfl, rfl⟩ hA hB hC hD
      refine ⟨hr.defers, _, h2, _, mapρ (resM Vs r ++ fixM 500000 os) ρ1, rfl, hrel', ?_⟩
      exact fin_rel hU hfin hm1 h1
    · exact hk.elim
  intro e a w' hq
  cases e with
  | normal => obtain ⟨σ, ρ1, hk, hr, _⟩ := hq; exact done σ ρ1 a w' hk hr
  | ret => obtain ⟨σ, ρ1, hk, hr, _⟩ := hq; exact done σ ρ1 a w' hk hr
  | exit id => obtain ⟨σ, ρ1, hk, hr, _⟩ := hq; exact hk.elim
  | _ => exact hq.elim
def entryH (n : Nat) : List (Bool × List Ma) → List (Nat × V)
  | [] => []
  | p :: r => (n, maV (· + 400000) p) :: entryH (n + 1) r
theorem entryH_get : ∀ {cs : List (Bool × List Ma)} {n t : Nat} {V : V}, look (entryH n cs) t = some V → ∃ i p, t = n + i ∧ cs[i]? = some p ∧ V = maV (· + 400000) p
  | [], n, t, V, h => by simp [entryH, look] at h
  | p :: r, n, t, V, h => by
    simp only [entryH, look_cons] at h
    split at h
    · rename_i hn; cases h; exact ⟨0, p, by omega, rfl, rfl⟩
    · obtain ⟨i, q, h1, h2, h3⟩ := entryH_get h
      exact ⟨i + 1, q, by omega, by simpa using h2, h3⟩
/-- A WHOLE FUNCTION that is handed objects for good -/
theorem fnh_sound {ty : List (Nat × Td)} {Γ : Ctx} (kp : List Nat) {f : Nat} {fn : Func} {c : Code} {ts : List RV} {as : List (Bool × List Ma)} {obs : List Mo} {r : Rs} (hm : P.follows .mixedOrders = true) (hty : TyOk P ty) (hΓ : ∀ x, CtxOk P x Γ)
    (hf : P.funcs[f]? = some fn) (hb : fn.body = some c) (hok : okB ty fn.ntmps c = true) (hrv : ts.all (RV.okB ty) = true) (hres : fn.results = (ts.map RV.res).toArray) (hl : ts.length = 1 ∨ ts.length = 2 ∨ ts.length = 3) (hn : as.length ≤ fn.ntmps)
    (h : vc Γ ty kp c (finK ts r []) ⟨entryH 0 as, numb 400000 obs⟩) : FnH P f as obs r := by
  intro S vals w ρ hR ha
  refine calls_of_wp hf hb ?_
  have hlen : vals.length = as.length := by simpa using ha.1
  have hrel : Rel (cxH S w (numb 400000 obs) ρ) ⟨entryH 0 as, numb 400000 obs⟩ ρ { tmps := vals.toArray ++ Array.replicate (fn.ntmps - vals.toArray.size) undef, defers := [] } w := by
    refine ⟨fun t V hV => ?_, hR.objs, hR.sep, hR.fresh, hR.grow, rfl, hR.fix⟩
    obtain ⟨i, p, rfl, hp, rfl⟩ := entryH_get hV
    obtain ⟨v, hv, hvr⟩ := ha.get (j := i) (y := maV (· + 400000) p) (by simp [hp])
    have hil : i < vals.length := (List.getElem?_eq_some_iff.1 hv).1
    have e : (vals.toArray ++ Array.replicate (fn.ntmps - vals.toArray.size) undef).getD (0 + i) undef = v := by
      rw [Nat.zero_add, Array.getD_eq_getD_getElem?, Array.getElem?_append_left (by simpa using hil)]
      simp [hv]
    rw [e]
    exact hvr
  have hN : ({ tmps := vals.toArray ++ Array.replicate (fn.ntmps - vals.toArray.size) undef, defers := [] } : Act).tmps.size = fn.ntmps := by
    simp; omega
  refine wp_mono (vc_sound hm hty (hΓ _) c (finK ts r []) _ _ _ w hok hrel hN h) ?_
  have done : ∀ (σ : St) (ρ1 : Nat → Value) (a : Act) (w' : World), finK ts r [] .normal σ → Rel (cxH S w (numb 400000 obs) ρ) σ ρ1 a w' → a.defers = [] ∧ ∃ v, (results fn a.tmps).run P w' = .ok v w' ∧ ∃ v' ρ', Ending.returned v = .returned v' ∧
      Rel (cxH S w (numb 400000 obs) ρ) ⟨[], r.O 0⟩ ρ' ⟨#[], []⟩ w' ∧ VRel w' (Cx.U (cxH S w (numb 400000 obs) ρ) (r.O 0) ρ') (r.O 0) ρ' v' (r.V 0) := by
    intro σ ρ1 a w' hk hr
    simp only [finK] at hk
    split at hk
    · rename_i Vs hVs
      obtain ⟨hfin, _⟩ := hk
      obtain ⟨vs, h1, h2⟩ := res_run (P := P) hty hr hrv hVs hres hl
      have hm1 : ∀ j q, look (resM Vs r) j = some q → look (resM Vs r) j = some q ∧ (look (r.O 0) j).isSome := fun j q hq => by
        refine ⟨hq, ?_⟩
        cases hz : look (r.O 0) j with
        | some o => rfl
        | none => rw [resM_none hfin hz] at hq; cases hq
      obtain ⟨hrel', hU⟩ := hr.out (O := r.O 0) (m := resM Vs r) (y := cxH S w (numb 400000 obs) ρ) ⟨rfl, rfl, rfl, rfl⟩ (fun j o hj => resM_get hfin hj) (fun j o hj => (Rs.O_row r 0 j o hj).mono (fun e => by cases e)) (resM_nodup hfin) (fun j v hv => by cases hv)
      refine ⟨hr.defers, _, h2, _, mapρ (resM Vs r) ρ1, rfl, hrel', ?_⟩
      exact fin_rel hU hfin hm1 h1
    · exact hk.elim
  intro e a w' hq
  cases e with
  | normal => obtain ⟨σ, ρ1, hk, hr, _⟩ := hq; exact done σ ρ1 a w' hk hr
  | ret => obtain ⟨σ, ρ1, hk, hr, _⟩ := hq; exact done σ ρ1 a w' hk hr
  | exit id => obtain ⟨σ, ρ1, hk, hr, _⟩ := hq; exact hk.elim
  | _ => exact hq.elim
end
/-! ### Part Sb of the small logic: a whole function whose result lies in new memory alone; a whole function that may change whole numbers in what it is handed to read. No conditions. -/
def entryXV : Bool × List C → V
  | (true, cs) => .agg (cs.map C.toX)
  | (false, [c]) => .one c.toX
  | _ => .one .any
def entryX (n : Nat) : List (Bool × List C) → List (Nat × V)
  | [] => []
  | p :: r => (n, entryXV p) :: entryX (n + 1) r
theorem entryX_get : ∀ {cs : List (Bool × List C)} {n t : Nat} {V : V}, look (entryX n cs) t = some V → ∃ i p, t = n + i ∧ cs[i]? = some p ∧ V = entryXV p
  | [], n, t, V, h => by simp [entryX, look] at h
  | p :: r, n, t, V, h => by
    simp only [entryX, look_cons] at h
    split at h
    · rename_i hn; cases h; exact ⟨0, p, by omega, rfl, rfl⟩
    · obtain ⟨i, q, h1, h2, h3⟩ := entryX_get h
      exact ⟨i + 1, q, by omega, by simpa using h2, h3⟩
section
variable {P : Program} {ρ : Nat → Value} {w : World}
theorem entryXV_rel {S U : Nat → Prop} {ob : List (Nat × Ob)} {v : Value} {p : Bool × List C} (h : CapRel w S v p) (hS : ∀ b, b < w.heap.size → Xo U ob ρ b) : VRel w U ob ρ v (entryXV p) := by
  obtain ⟨g, cs⟩ := p
  cases g with
  | true =>
    obtain ⟨vs, rfl, h⟩ := h
    refine ⟨vs, rfl, h.map_right _ fun u _ c _ hr => C.toX_rel (hr.mono (fun b hb _ => hS b hb) fun _ _ _ h => h)⟩
  | false =>
    match cs, h with
    | [c], h => exact C.toX_rel (Rd.mono h (fun b hb _ => hS b hb) fun _ _ _ h => h)
/-- A WHOLE FUNCTION whose result lies in new memory alone: what it is handed is old memory -/
theorem fnd_sound {ty : List (Nat × Td)} {Γ : Ctx} (kp : List Nat) {f : Nat} {fn : Func} {c : Code} {ts : List RV} {cs : List (Bool × List C)} {r : Rs} (hm : P.follows .mixedOrders = true) (hty : TyOk P ty) (hΓ : Γ.prog = P)
    (hf : P.funcs[f]? = some fn) (hb : fn.body = some c) (hok : okB ty fn.ntmps c = true) (hrv : ts.all (RV.okB ty) = true) (hres : fn.results = (ts.map RV.res).toArray) (hl : ts.length = 1 ∨ ts.length = 2 ∨ ts.length = 3) (hn : cs.length ≤ fn.ntmps)
    (h : vc Γ ty kp c (finK ts r []) ⟨entryX 0 cs, []⟩) : FnD P f cs r := by
  intro S vals w ha
  refine calls_of_wp hf hb ?_
  have hlen : vals.length = cs.length := ha.1
  have hrel : Rel ⟨NoM, w, NoM, noF, false⟩ ⟨entryX 0 cs, []⟩ (fun _ => undef) { tmps := vals.toArray ++ Array.replicate (fn.ntmps - vals.toArray.size) undef, defers := [] } w := by
    refine ⟨fun t V hV => ?_, fun j o ho => by simp [look] at ho, fun i j oi oj b hi => by simp [look] at hi, fun i o b hi => by simp [look] at hi, Grow.refl _, rfl, fun j v hv => by cases hv⟩
    obtain ⟨i, p, rfl, hp, rfl⟩ := entryX_get hV
    obtain ⟨v, hv, hvr⟩ := ha.get hp
    have hil : i < vals.length := (List.getElem?_eq_some_iff.1 hv).1
    have e : (vals.toArray ++ Array.replicate (fn.ntmps - vals.toArray.size) undef).getD (0 + i) undef = v := by
      rw [Nat.zero_add, Array.getD_eq_getD_getElem?, Array.getElem?_append_left (by simpa using hil)]
      simp [hv]
    rw [e]
    refine entryXV_rel hvr fun b hb => ⟨fun hu => ?_, fun ⟨j, o, hj, _⟩ => by simp [look] at hj⟩
    rcases hu.1 with h | h | h
    · exact h.elim
    · exact h.elim
    · exact absurd h (by show ¬ w.heap.size ≤ b; omega)
  have hN : ({ tmps := vals.toArray ++ Array.replicate (fn.ntmps - vals.toArray.size) undef, defers := [] } : Act).tmps.size = fn.ntmps := by
    simp; omega
  refine wp_mono (vc_sound (x := ⟨NoM, w, NoM, noF, false⟩) hm hty ⟨hΓ, fun _ => ⟨fun _ f => False.elim f, fun _ f => False.elim f⟩⟩ c (finK ts r []) _ _ _ w hok hrel hN h) ?_
  have done : ∀ (σ : St) (ρ : Nat → Value) (a : Act) (w' : World), finK ts r [] .normal σ → Rel ⟨NoM, w, NoM, noF, false⟩ σ ρ a w' → a.defers = [] ∧ ∃ v, (results fn a.tmps).run P w' = .ok v w' ∧ ∃ v', Ending.returned v = .returned v' ∧ Ret NoM w w' v' r ∧ Ext w w' NoM := by
    intro σ ρ a w' hk hr
    simp only [finK] at hk
    split at hk
    · rename_i Vs hVs
      obtain ⟨vs, h1, h2⟩ := res_run (P := P) hty hr hrv hVs hres hl
      exact ⟨hr.defers, _, h2, _, rfl, fin_ret hr rfl rfl h1 hk.1, hr.grow.toExt⟩
    · exact hk.elim
  intro e a w' hq
  cases e with
  | normal => obtain ⟨σ, ρ, hk, hr, _⟩ := hq; exact done σ ρ a w' hk hr
  | ret => obtain ⟨σ, ρ, hk, hr, _⟩ := hq; exact done σ ρ a w' hk hr
  | exit id => obtain ⟨σ, ρ, hk, hr, _⟩ := hq; exact hk.elim
  | _ => exact hq.elim
/-- A WHOLE FUNCTION that may change whole numbers in what it is handed to read -/
theorem fnu_sound {ty : List (Nat × Td)} (kp : List Nat) {f : Nat} {fn : Func} {c : Code} {ts : List RV} {cs : List (Bool × List C)} {k : IntKind} {m : Int} (hm : P.follows .mixedOrders = true) (hty : TyOk P ty)
    (hf : P.funcs[f]? = some fn) (hb : fn.body = some c) (hok : okB ty fn.ntmps c = true) (hrv : ts.all (RV.okB ty) = true) (hres : fn.results = (ts.map RV.res).toArray) (hl : ts.length = 1 ∨ ts.length = 2 ∨ ts.length = 3) (hn : cs.length ≤ fn.ntmps)
    (h : vc ⟨P, true⟩ ty kp c (finK ts (.one (.int k m)) []) ⟨entry 0 cs, []⟩) : FnU P f cs k m := by
  intro S vals w hfz ha
  refine calls_of_wp hf hb ?_
  have hlen : vals.length = cs.length := ha.1
  have hrel : Rel ⟨NoM, w, S, noF, true⟩ ⟨entry 0 cs, []⟩ (fun _ => undef) { tmps := vals.toArray ++ Array.replicate (fn.ntmps - vals.toArray.size) undef, defers := [] } w := by
    refine ⟨fun t V hV => ?_, fun j o ho => by simp [look] at ho, fun i j oi oj b hi => by simp [look] at hi, fun i o b hi => by simp [look] at hi, Grow.refl _, rfl, fun j v hv => by cases hv⟩
    obtain ⟨i, p, rfl, hp, rfl⟩ := entry_get hV
    obtain ⟨v, hv, hvr⟩ := ha.get hp
    have hil : i < vals.length := (List.getElem?_eq_some_iff.1 hv).1
    have e : (vals.toArray ++ Array.replicate (fn.ntmps - vals.toArray.size) undef).getD (0 + i) undef = v := by
      rw [Nat.zero_add, Array.getD_eq_getD_getElem?, Array.getElem?_append_left (by simpa using hil)]
      simp [hv]
    rw [e]
    exact entryV_rel hvr fun b hb => ⟨.inr (.inl hb), fun ⟨j, o, hj, _⟩ => by simp [look] at hj⟩
  have hN : ({ tmps := vals.toArray ++ Array.replicate (fn.ntmps - vals.toArray.size) undef, defers := [] } : Act).tmps.size = fn.ntmps := by
    simp; omega
  refine wp_mono (vc_sound (x := ⟨NoM, w, S, noF, true⟩) hm hty (Γ := ⟨P, true⟩) ⟨rfl, fun _ => ⟨fun _ f => False.elim f, hfz⟩⟩ c (finK ts (.one (.int k m)) []) _ _ _ w hok hrel hN h) ?_
  have done : ∀ (σ : St) (ρ : Nat → Value) (a : Act) (w' : World), finK ts (.one (.int k m)) [] .normal σ → Rel ⟨NoM, w, S, noF, true⟩ σ ρ a w' → a.defers = [] ∧ ∃ v, (results fn a.tmps).run P w' = .ok v w' ∧ Ending.returned v = .returned (.int k m) ∧ HExt w w' S := by
    intro σ ρ a w' hk hr
    simp only [finK] at hk
    split at hk
    · rename_i Vs hVs
      obtain ⟨vs, h1, h2⟩ := res_run (P := P) hty hr hrv hVs hres hl
      refine ⟨hr.defers, _, h2, ?_, hr.hext rfl⟩
      have hfin := hk.1
      simp only [fin] at hfin
      split at hfin
      · rename_i s
        obtain ⟨v, vs', rfl, h3, h4⟩ := h1.cons_right
        obtain rfl := h4.nil_right
        cases s with
        | int k' n' =>
          obtain ⟨⟨rfl, rfl⟩, _⟩ := hfin
          rw [show v = .int k' n' from h3]; rfl
        | _ => exact hfin.1.elim
      · exact hfin.elim
    · exact hk.elim
  intro e a w' hq
  cases e with
  | normal => obtain ⟨σ, ρ, hk, hr, _⟩ := hq; exact done σ ρ a w' hk hr
  | ret => obtain ⟨σ, ρ, hk, hr, _⟩ := hq; exact done σ ρ a w' hk hr
  | exit id => obtain ⟨σ, ρ, hk, hr, _⟩ := hq; exact hk.elim
  | _ => exact hq.elim
end
end Go.Vq
