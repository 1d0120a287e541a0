/- Part Za of the small logic: arguments that are given read as data; a contract gives a law's statement. No conditions. -/
import Derived.Test.YtcibheinilkcoaaVcZ
import Derived.ChangeStays
import Derived.ChangeBears
import Derived.ChangeArms
import Derived.ReadAgain
import Derived.OpenShut
import Derived.WalkKit
import Derived.ProofKit
import Derived.Handed
import Derived.ChangeCalls
import Derived.ChangeAgain
namespace Go.Vq
open Go.RowKit Go.ChangeShapes Go.WideShapes

/-! ### what kinds of cells a type has -/
def kindsFs (P : Program) (g : TypeId → Option (List Kd)) : Nat → List Field → Option (List Kd)
  | _, [] => some []
  | off, f :: fs => match g f.type with
    | some ks => match Nat.beq f.offset off && Nat.beq (P.cellsOf f.type) ks.length with
      | true => match kindsFs P g (off + ks.length) fs with
        | some r => some (ks ++ r)
        | none => none
      | false => none
    | none => none
def kindsOf (P : Program) : Nat → TypeId → Option (List Kd)
  | 0, _ => none
  | n + 1, t => match P.underlying t with
    | some (.int k) => some [.int k]
    | some .bool => some [.bool]
    | some (.slice e) => match kindsOf P n e with
      | some ks => match Nat.beq (P.cellsOf e) ks.length with
        | true => some [.sl ks]
        | false => none
      | none => none
    | some (.struct fs) => match kindsFs P (kindsOf P n) 0 fs.toList with
      | some ks => match Nat.beq (P.cellsOf t) ks.length with
        | true => some ks
        | false => none
      | none => none
    | _ => none

/-- data within the bounds of their types -/
inductive Ok : C → Prop
  | int (k n) (h : (Lit.int k n).wf = true) : Ok (.int k n)
  | bool (b) : Ok (.bool b)
  | sq (ks : List Kd) (rows : List (List C)) (hl : rows.length ≤ maxLen) (hk : ∀ r ∈ rows, r.map C.kd = ks) (hr : ∀ r ∈ rows, ∀ c ∈ r, Ok c) : Ok (.sq ks rows)

/-- rows found one by one, put together -/
theorem pick_rows {α β : Type} (R : Nat → α → β → Prop) : ∀ (n : Nat), (∀ i, i < n → ∃ x y, R i x y) → ∃ (xs : List α) (ys : List β), xs.length = n ∧ ys.length = n ∧ ∀ (i : Nat) x y, xs[i]? = some x → ys[i]? = some y → R i x y
  | 0, _ => ⟨[], [], rfl, rfl, fun i x y h => by simp at h⟩
  | n + 1, h => by
    obtain ⟨xs, ys, h1, h2, h3⟩ := pick_rows R n fun i hi => h i (by omega)
    obtain ⟨x, y, hx⟩ := h n (by omega)
    refine ⟨xs ++ [x], ys ++ [y], by simp [h1], by simp [h2], fun i u v hu hv => ?_⟩
    by_cases hi : i < n
    · rw [List.getElem?_append_left (by omega)] at hu hv
      exact h3 i u v hu hv
    · rw [List.getElem?_append_right (by omega)] at hu hv
      rw [h1] at hu; rw [h2] at hv
      have hlt : i - n < 1 := by
        have := (List.getElem?_eq_some_iff.1 hu).1
        simpa using this
      obtain rfl : i = n := by omega
      simp at hu hv
      subst hu; subst hv; exact hx

theorem flat_get {α : Type} {rows : List (List α)} {m i j : Nat} {row : List α} (he : ∀ r ∈ rows, r.length = m) (hi : rows[i]? = some row) (hj : j < m) : rows.flatten[i * m + j]? = row[j]? := by
  induction rows generalizing i with
  | nil => simp at hi
  | cons r rs ih =>
    have hr : r.length = m := he r (by simp)
    cases i with
    | zero =>
      simp at hi; subst hi
      rw [List.flatten_cons, List.getElem?_append_left (by omega)]
      simp
    | succ i =>
      simp at hi
      rw [List.flatten_cons, List.getElem?_append_right (by rw [hr, Nat.succ_mul]; omega)]
      have := ih (fun r hr => he r (by simp [hr])) hi
      rw [hr, show (i + 1) * m + j - m = i * m + j by rw [Nat.succ_mul]; omega]
      exact this
theorem flat_len {α : Type} {rows : List (List α)} {m : Nat} (he : ∀ r ∈ rows, r.length = m) : rows.flatten.length = rows.length * m := by
  induction rows with
  | nil => simp
  | cons r rs ih =>
    rw [List.flatten_cons, List.length_append, ih (fun r hr => he r (by simp [hr])), he r (by simp), List.length_cons, Nat.succ_mul, Nat.add_comm]

section
variable {H : Type} {enc : TypeId × Value → H} {P : Program} {w : World} {sp : Nat → Bool} {held : Bool}
def Any : Nat → Prop := fun _ => True

theorem trod_flds {fuel : Nat} {g : TypeId → Option (List Kd)} (ih : ∀ t ks cs x, g t = some ks → DataW.trod enc P w 0 sp held fuel t cs = some x → ∃ Cs, All2 (Rd w Any) cs Cs ∧ Cs.map C.kd = ks ∧ ∀ c ∈ Cs, Ok c) (cs : List Value) :
    ∀ (fs : List Field) (off : Nat) (ks : List Kd), kindsFs P g off fs = some ks → (∀ (i : Nat) f, fs[i]? = some f → ∃ x, DataW.trod enc P w 0 sp held fuel f.type ((cs.drop f.offset).take (P.cellsOf f.type)) = some x) →
      ∃ Cs, All2 (Rd w Any) ((cs.drop off).take ks.length) Cs ∧ Cs.map C.kd = ks ∧ ∀ c ∈ Cs, Ok c
  | [], off, ks, h, _ => by
    simp only [kindsFs, Option.some.injEq] at h
    subst h
    exact ⟨[], by simpa using All2.nil, rfl, fun c hc => by simp at hc⟩
  | f :: fs, off, ks, h, hx => by
    simp only [kindsFs] at h
    split at h
    · rename_i k1 hk1
      split at h
      · rename_i hb
        simp only [Bool.and_eq_true] at hb
        have h1 := Nat.eq_of_beq_eq_true hb.1
        have h2 := Nat.eq_of_beq_eq_true hb.2
        split at h
        · rename_i r hr
          cases h
          obtain ⟨x, hx0⟩ := hx 0 f rfl
          obtain ⟨C1, a1, b1, c1⟩ := ih _ _ _ _ hk1 hx0
          obtain ⟨C2, a2, b2, c2⟩ := trod_flds ih cs fs _ _ hr (fun i f' hf => hx (i + 1) f' (by simpa using hf))
          refine ⟨C1 ++ C2, ?_, by simp [b1, b2], fun c hc => (List.mem_append.1 hc).elim (c1 c) (c2 c)⟩
          have e : (cs.drop off).take (k1 ++ r).length = (cs.drop f.offset).take (P.cellsOf f.type) ++ (cs.drop (off + k1.length)).take r.length := by
            rw [h1, h2, List.length_append, List.take_add, List.drop_drop]
          rw [e]
          exact a1.append a2
        · cases h
      · cases h
    · cases h

/-- a value that reads in the model reads as data -/
theorem trod_open : ∀ (n fuel : Nat) (t : TypeId) (ks : List Kd) (cs : List Value) (x : DataW H × List MemPlace), kindsOf P n t = some ks → DataW.trod enc P w 0 sp held fuel t cs = some x →
    ∃ Cs, All2 (Rd w Any) cs Cs ∧ Cs.map C.kd = ks ∧ ∀ c ∈ Cs, Ok c
  | 0, _, _, _, _, _, h, _ => by simp [kindsOf] at h
  | n + 1, fuel, t, ks, cs, x, h, hx => by
    simp only [kindsOf] at h
    split at h
    · rename_i k hu
      cases h
      obtain ⟨m, rfl, _, hw⟩ := DataW.trod_int hu hx
      exact ⟨[.int k m], All2.nil.cons (.int k m), rfl, fun c hc => by simp at hc; subst hc; exact .int k m hw⟩
    · rename_i hu
      cases h
      obtain ⟨b, rfl, _⟩ := DataW.trod_bool hu hx
      exact ⟨[.bool b], All2.nil.cons (.bool b), rfl, fun c hc => by simp at hc; subst hc; exact .bool b⟩
    · rename_i e hu
      split at h
      · rename_i k1 hk1
        split at h
        · rename_i hb
          have hb := Nat.eq_of_beq_eq_true hb
          cases h
          rcases DataW.trod_slice hu hx with ⟨rfl, _⟩ | ⟨a, len, cap, elems, rest, m, rfl, rfl, _, _, hlc, hcm, hel, hget, _⟩
          · exact ⟨[.sq k1 []], All2.nil.cons (.nil k1), rfl, fun c hc => by
              simp at hc; subst hc; exact .sq k1 [] (Nat.zero_le _) (fun r hr => by simp at hr) (fun r hr => by simp at hr)⟩
          · have each : ∀ i, i < len → ∃ (vs : List Value) (row : List C), vs.length = k1.length ∧ (∀ j v, vs[j]? = some v → w.cell? ((a.add (i * k1.length)).add j) = some v) ∧ All2 (Rd w Any) vs row ∧ row.map C.kd = k1 ∧ ∀ c ∈ row, Ok c := by
              intro i hi
              have h1 := hget i hi
              have h2 : elems[i]? = some elems[i] := List.getElem?_eq_getElem (by omega)
              rw [h2, Option.bind_eq_some_iff] at h1
              obtain ⟨vs, hc, ht⟩ := h1
              obtain ⟨_, hl, hcell⟩ := World.cells?_some hc
              obtain ⟨row, r1, r2, r3⟩ := trod_open n m e k1 vs _ hk1 ht
              refine ⟨vs, row, by rw [hl, hb], fun j v hv => ?_, r1, r2, r3⟩
              have := hcell j (by rw [← hl]; exact (List.getElem?_eq_some_iff.1 hv).1)
              rw [hb] at this
              rw [this]; exact hv
            obtain ⟨vss, rows, l1, l2, hR⟩ := pick_rows (fun i vs row => vs.length = k1.length ∧ (∀ j v, vs[j]? = some v → w.cell? ((a.add (i * k1.length)).add j) = some v) ∧ All2 (Rd w Any) vs row ∧ row.map C.kd = k1 ∧ ∀ c ∈ row, Ok c) len each
            have each' : ∀ i, i < len → ∃ vs row, vss[i]? = some vs ∧ rows[i]? = some row := fun i hi => ⟨vss[i], rows[i], List.getElem?_eq_getElem (by omega), List.getElem?_eq_getElem (by omega)⟩
            have hvm : ∀ vs ∈ vss, vs.length = k1.length := by
              intro vs hvs
              obtain ⟨i, hi⟩ := List.getElem?_of_mem hvs
              obtain ⟨_, row, _, hr⟩ := each' i (by rw [← l1]; exact (List.getElem?_eq_some_iff.1 hi).1)
              exact (hR i vs row hi hr).1
            have hrm : ∀ row ∈ rows, row.map C.kd = k1 ∧ ∀ c ∈ row, Ok c := by
              intro row hrow
              obtain ⟨i, hi⟩ := List.getElem?_of_mem hrow
              obtain ⟨vs, _, hv, _⟩ := each' i (by rw [← l2]; exact (List.getElem?_eq_some_iff.1 hi).1)
              exact ⟨(hR i vs row hv hi).2.2.2.1, (hR i vs row hv hi).2.2.2.2⟩
            have hrl : ∀ row ∈ rows, row.length = k1.length := fun row hr => by rw [← (hrm row hr).1]; simp
            have hvl := flat_len hvm
            have hrl' := flat_len hrl
            have split : ∀ j, j < len * k1.length → ∃ i q, i < len ∧ q < k1.length ∧ j = i * k1.length + q := by
              intro j hj
              have hk : 0 < k1.length := by
                rcases Nat.eq_zero_or_pos k1.length with h0 | h0
                · rw [h0, Nat.mul_zero] at hj; omega
                · exact h0
              refine ⟨j / k1.length, j % k1.length, ?_, Nat.mod_lt _ hk, ?_⟩
              · exact Nat.div_lt_of_lt_mul (by rw [Nat.mul_comm]; exact hj)
              · have := Nat.div_add_mod j k1.length
                rw [Nat.mul_comm] at this; exact this.symm
            have key : ∀ (j : Nat) v, vss.flatten[j]? = some v → w.cell? (a.add j) = some v ∧ ∀ c, rows.flatten[j]? = some c → Rd w Any v c := by
              intro j v hv
              obtain ⟨i, q, hi, hq, rfl⟩ := split j (by rw [← l1, ← hvl]; exact (List.getElem?_eq_some_iff.1 hv).1)
              obtain ⟨vs, row, e1, e2⟩ := each' i hi
              obtain ⟨r0, r1, r2, r3, r4⟩ := hR i vs row e1 e2
              rw [flat_get hvm e1 hq] at hv
              refine ⟨?_, fun c hc => ?_⟩
              · rw [← Addr.add_add]; exact r1 q v hv
              · rw [flat_get hrl e2 hq] at hc
                exact r2.2 q v c hv hc
            refine ⟨[.sq k1 rows], All2.nil.cons (.sq a len cap k1 rows vss.flatten l2 hlc (fun r hr => (hrm r hr).1) (fun _ => trivial) (by rw [hvl, hrl', l1, l2]) (fun j v hv => (key j v hv).1) (fun j v c hv hc => (key j v hv).2 c hc)), rfl, fun c hc => ?_⟩
            simp at hc; subst hc
            exact .sq k1 rows (by rw [l2]; omega) (fun r hr => (hrm r hr).1) (fun r hr => (hrm r hr).2)
        · cases h
      · cases h
    · rename_i fs hu
      split at h
      · rename_i k1 hk1
        split at h
        · rename_i hb
          have hb := Nat.eq_of_beq_eq_true hb
          cases h
          obtain ⟨xs, m, rfl, _, hlen, hxs, hget⟩ := DataW.trod_struct hu hx
          obtain ⟨Cs, a1, a2, a3⟩ := trod_flds (fuel := m) (g := kindsOf P n) (fun t ks cs x hk hx => trod_open n m t ks cs x hk hx) cs fs.toList 0 _ hk1 (fun i f hf => by
            have := hget i f (by simpa using hf)
            have hi : i < xs.length := by
              have := (List.getElem?_eq_some_iff.1 hf).1
              rw [hxs]; simpa using this
            exact ⟨xs[i], by rw [this]; exact List.getElem?_eq_getElem hi⟩)
          rw [List.drop_zero, List.take_of_length_le (by rw [hlen, hb]; exact Nat.le_refl _)] at a1
          exact ⟨Cs, a1, a2, a3⟩
        · cases h
      · cases h
    · cases h

/-- a parameter's value -/
theorem cap_open {n : Nat} {t : TypeId} {ks : List Kd} {v : Value} {d : DataW H} {ps : List MemPlace} (hv : Value.okWide P w .any 0 t v) (hk : kindsOf P n t = some ks) (h : DataW.Trod enc P w 0 sp held t v d ps) :
    ∃ cs, CapRel w Any v (aggB P t, cs) ∧ cs.map C.kd = ks ∧ ∀ c ∈ cs, Ok c := by
  obtain ⟨fuel, hf⟩ := h
  obtain ⟨Cs, a1, a2, a3⟩ := trod_open n fuel t ks _ _ hk hf
  refine ⟨Cs, ?_, a2, a3⟩
  cases n with
  | zero => simp [kindsOf] at hk
  | succ n =>
    have one : ∀ u : Value, v = u → u.cells = #[u] → aggB P t = false → CapRel w Any v (aggB P t, Cs) := by
      intro u hu hc hg
      subst hu
      rw [hg]
      rw [hc] at a1
      obtain ⟨c, r, rfl, hr⟩ : ∃ c r, Cs = c :: r ∧ r = [] := by
        cases Cs with
        | nil => have := a1.1; simp at this
        | cons c r => exact ⟨c, r, rfl, by have := a1.1; simp at this; exact this⟩
      subst hr
      exact a1.head
    simp only [kindsOf] at hk
    split at hk
    · rename_i k hu
      obtain ⟨m, rfl⟩ := okWide_int hu hv
      exact one _ rfl rfl (by unfold aggB; rw [hu])
    · rename_i hu
      obtain ⟨m, rfl⟩ := okWide_bool hu hv
      exact one _ rfl rfl (by unfold aggB; rw [hu])
    · rename_i e hu
      obtain ⟨a, l, c, rfl⟩ := okWide_slice hu hv
      exact one _ rfl rfl (by unfold aggB; rw [hu])
    · rename_i fs hu
      obtain ⟨cs, rfl, _⟩ := okWide_struct hu hv
      have : aggB P t = true := by unfold aggB; rw [hu]
      rw [this]
      exact ⟨cs.toList, by simp, a1⟩
    · cases hk

theorem caps_open (n : Nat) : ∀ {ts : List TypeId} {vs : List Value} {ds : List (DataW H)} {ps : List MemPlace} {kss : List (Bool × List Kd)}, DataW.TrodAll enc P w 0 sp held ts vs ds ps →
    (∀ (j : Nat) t v, ts[j]? = some t → vs[j]? = some v → Value.okWide P w .any 0 t v) → ts.map (fun t => (aggB P t, kindsOf P n t)) = kss.map (fun p => (p.1, some p.2)) →
    ∃ caps : List (Bool × List C), All2 (CapRel w Any) vs caps ∧ caps.map (fun p => (p.1, p.2.map C.kd)) = kss ∧ ∀ p ∈ caps, ∀ c ∈ p.2, Ok c
  | [], [], [], _, [], _, _, _ => ⟨[], All2.nil, rfl, fun p hp => by simp at hp⟩
  | t :: ts, v :: vs, d :: ds, _, (g, ks) :: kss, ⟨p, q, h1, h2, _⟩, hv, hk => by
    simp only [List.map_cons, List.cons.injEq, Prod.mk.injEq] at hk
    obtain ⟨⟨hg, hk1⟩, hk2⟩ := hk
    obtain ⟨cs, a1, a2, a3⟩ := cap_open (hv 0 t v rfl rfl) hk1 h1
    obtain ⟨caps, b1, b2, b3⟩ := caps_open n h2 (fun j t v ht hv' => hv (j + 1) t v (by simpa using ht) (by simpa using hv')) hk2
    refine ⟨(aggB P t, cs) :: caps, b1.cons a1, by simp [a2, b2, hg], fun p hp => ?_⟩
    rcases List.mem_cons.1 hp with rfl | hp
    · exact a3
    · exact b3 p hp
  | [], [], [], _, _ :: _, _, _, hk => by simp at hk
  | _ :: _, _, _, _, [], _, _, hk => by simp at hk
  | [], _ :: _, _, _, _, h, _, _ => h.elim
  | [], [], _ :: _, _, _, h, _, _ => h.elim
  | _ :: _, [], _, _, _ :: _, h, _, _ => h.elim
  | _ :: _, _ :: _, [], _, _ :: _, h, _, _ => h.elim
end
/-! ### Part Zb of the small logic: a contract of a law's function gives the law's row. No conditions. -/
open Go.ChangeShapes Go.WideShapes Go.ChangeAt Go.RowKit
section
variable {H : Type} {enc : TypeId × Value → H} {P : Program} {w w' : World}
theorem Ext.sameAt (h : Ext w w' NoM) {p : MemPlace} (hp : p.block < w.heap.size) : w.sameAt w' p := by
  have hb := h.block p.block hp (fun f => f)
  cases p with
  | cell b off => exact World.cell?_of_block hb
  | map b => exact hb
theorem args_stay {T : TypeId → Prop} (K : Kids P T) (hsz : ∀ {t e : TypeId}, T t → P.underlying t = some (.slice e) → 0 < P.cellsOf e) (h : Ext w w' NoM) {sp : Nat → Bool} :
    ∀ {ts : List TypeId} {vs : List Value} {ds : List (DataW H)} {ps : List MemPlace}, (∀ t ∈ ts, T t) → DataW.TrodAll enc P w 0 (fun _ => true) true ts vs ds ps → (∀ p ∈ ps, sp p.block = true) → DataW.TrodAll enc P w' 0 sp true ts vs ds ps
  | [], [], [], _, _, hx, _ => hx
  | t :: ts, v :: vs, d :: ds, ps, hT, ⟨p, q, ⟨n, h1⟩, h2, e⟩, hs => by
    subst e
    refine ⟨p, q, ⟨n, ?_⟩, args_stay K hsz h (fun t ht => hT t (List.mem_cons_of_mem _ ht)) h2 (fun x hx => hs x (List.mem_append_right _ hx)), rfl⟩
    exact DataW.trod_stays K hsz (fun e => by cases e) (hT t (List.mem_cons_self ..)) h1 (fun x hx => h.sameAt (DataW.trod_lt _ _ _ _ h1 x hx)) (fun x hx => hs x (List.mem_append_left _ hx))
  | [], _ :: _, _, _, _, hx, _ => hx.elim
  | [], [], _ :: _, _, _, hx, _ => hx.elim
  | _ :: _, [], _, _, _, hx, _ => hx.elim
  | _ :: _, _ :: _, [], _, _, hx, _ => hx.elim
end

/-- what a law's contract is to say -/
def LawFn (P : Program) (f : Nat) (kss : List (Bool × List Kd)) : Prop :=
  ∀ caps : List (Bool × List C), caps.map (fun p => (p.1, p.2.map C.kd)) = kss → (∀ p ∈ caps, ∀ c ∈ p.2, Ok c) → FnC P f caps (.one (.bool true))

theorem law_lift {C : Checked} {os : Os} {H : Type} {enc : TypeId × Value → H} {f : FuncId} {fn : Func} {s : ChangeSpec} {tb : TypeId} (n : Nat) (kss : List (Bool × List Kd))
    (own : ownKnob C.prog.godebug = none) (started : os.Started) (noInit : C.prog.inits.idxOf? f = none) (hfn : C.prog.funcs[f]? = some fn)
    (witness : ∃ (w : World) (tape : Tape) (i : Input), w.os = os ∧ (w.forCall tape i).Shaped C.prog ∧ i.vars = [] ∧ Input.okWide C.prog (w.forCall tape i) .any w.heap.size f i ∧
      s.pre6 enc C.prog fn [] false (w.forCall tape i).memory i.args ∧ (({} : Assume)).holds C.prog (lone (Frame.enter C.prog f i.args .normal) [] (w.forCall tape i)))
    (hvars : s.vars = []) (hres : fn.resultTypes = #[tb]) (hb : C.prog.underlying tb = some .bool)
    (hspec : ∀ ds : List (DataW H), ds.length = fn.params.size → s.fn H (ds ++ []) = { results := [.lit (.bool true)], args := ds })
    (hk : fn.params.toList.map (fun t => (aggB C.prog t, kindsOf C.prog n t)) = kss.map (fun p => (p.1, some p.2)))
    (hlaid : laidOutB C.prog = true) (hmaps : mapsRowed C.prog = true)
    (hfull : ((List.range C.prog.types.size).all fun t => match C.prog.underlying t with | some (.slice e) => decide (0 < C.prog.cellsOf e) | _ => true) = true)
    (hparams : fn.params.toList.all (fun t => decide (t < C.prog.types.size)) = true)
    (law : LawFn C.prog f kss) :
    ReturnsInHanded {} C os f .any (s.pre6 enc C.prog fn [] false) (s.post enc C.prog fn false true false false) := by
  refine returnsInHanded_of_change own started noInit hfn witness ?_
  intro W base args ds gs before hval0 hW _ _
  have hval : ∀ (j : Nat) t v, fn.params.toList[j]? = some t → args.toList[j]? = some v → Value.okWide C.prog W .any 0 t v := by
    intro j t v ht hv
    exact Value.okWide_any_base (hval0 j t v (by simpa using ht) (by simpa using hv))
  have hW' := hW
  obtain ⟨p, q, hA, hV, rfl, hfz, hnd⟩ := hW
  rw [hvars] at hV
  obtain ⟨rfl, rfl⟩ := trodVars_none hV
  obtain ⟨caps, hc1, hc2, hc3⟩ := caps_open n hA hval hk
  obtain ⟨_, hF⟩ := law caps hc2 hc3
  have hcall := hF Any args.toList W hc1
  rw [Array.toArray_toList] at hcall
  refine hcall.mono fun e W' ⟨v, he, ⟨ρ, hrel, hv⟩, hx⟩ => ?_
  have hv : v = .bool true := hv
  subst hv; subst he
  have hg := hx.grown
  have hlen : ds.length = fn.params.size := by have := (trodAll_length hA).2; simpa using this
  have hsp := hspec ds hlen
  refine ⟨_, rfl, post_of_same (pa := p) (pv := []) (by simpa using hW') (fun _ _ _ => ?_) (fun sp hs => ?_) (fun sp hs => ?_) rfl (hg.frame _) hg.2.1 (ok_one hres rfl (okWide_bool_mk hb _))⟩
  · rw [hsp, hres]
    exact trodAll_cons_mk (shut_bool hb _) trodAll_mk0
  · rw [hsp]
    refine args_stay (kids_rows hlaid hmaps) (fun {t e} ht hu => slices_full_of C.prog hfull t e ht hu) hx (fun t ht => ?_) hA (fun x hx => hs x (by simpa using hx))
    exact of_decide_eq_true (List.all_eq_true.1 hparams t ht)
  · rw [hvars, hsp]
    exact rfl
end Go.Vq
