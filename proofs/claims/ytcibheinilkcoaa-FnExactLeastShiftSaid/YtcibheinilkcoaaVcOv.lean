/- Part Ov of the small logic: calls and stores that change whole numbers in memory that no object stands for; results that lie in new memory alone. No conditions. -/
import Derived.Test.YtcibheinilkcoaaVcOb
namespace Go.Vq
open Go.RowKit

theorem IntCh.trans {u v z : Value} (h : IntCh u v) (h' : IntCh v z) : IntCh u z := by
  rcases h with rfl | ⟨k, n, m, rfl, rfl⟩
  · exact h'
  · rcases h' with rfl | ⟨k', n', m', e, rfl⟩
    · exact .inr ⟨k, n, m, rfl, rfl⟩
    · cases e; exact .inr ⟨_, _, _, rfl, rfl⟩
/-- only the blocks of S change, and only whole numbers in them -/
structure HExt (w w' : World) (S : Nat → Prop) : Prop where
  ext : Ext w w' S
  cell : ∀ a u, S a.block → w.cell? a = some u → ∃ u', w'.cell? a = some u' ∧ IntCh u u'
/-- a function that may change whole numbers in what it is handed to read -/
def FnU (P : Program) (f : Nat) (cs : List (Bool × List C)) (k : IntKind) (m : Int) : Prop :=
  ∀ (S : Nat → Prop) (vals : List Value) (w : World), (∀ a, S a.block → w.frozen? a = false) → ArgsRel w S vals cs → Calls P f vals.toArray w fun e w' => e = .returned (.int k m) ∧ HExt w w' S
/-- a function whose result lies in new memory alone -/
def FnD (P : Program) (f : Nat) (cs : List (Bool × List C)) (r : Rs) : Prop :=
  ∀ (S : Nat → Prop) (vals : List Value) (w : World), ArgsRel w S vals cs → Calls P f vals.toArray w fun e w' => ∃ v, e = .returned v ∧ Ret NoM w w' v r ∧ Ext w w' NoM
theorem Ret.wider {S S' : Nat → Prop} {w w' : World} {v : Value} {r : Rs} (h : Ret S w w' v r) (hS : ∀ b, S b → S' b) : Ret S' w w' v r := by
  obtain ⟨ρ, h0, hv⟩ := h
  have hU : ∀ b, Cx.U ⟨S, w, NoM, noF, false⟩ (r.O 0) ρ b → Cx.U ⟨S', w, NoM, noF, false⟩ (r.O 0) ρ b := fun b hb => ⟨hb.1.imp (hS b) id, hb.2⟩
  refine ⟨ρ, ⟨fun t V hV => by simp [look] at hV, fun j o hj => ?_, h0.sep, h0.fresh, ⟨h0.grow.toExt, fun e => by cases e⟩, h0.defers, h0.fix⟩, ?_⟩
  · have hor := h0.objs j o hj
    rcases Rs.O_row r 0 _ _ hj with ⟨ty, ks, rows, rfl, _⟩ | ⟨bs, rfl, _⟩
    · exact ORel.mo (o := .row ty ks rows) hor hU
    · exact ORel.mo (o := .box bs) hor hU
  · exact RsV_shift (U0 := Cx.U ⟨S, w, NoM, noF, false⟩ (r.O 0) ρ) (ob0 := r.O 0) (ρ0 := ρ) 0 (fun j hj => ⟨hj, rfl⟩) r v (fun ks rows u _ hr => hr.mono (fun b _ => hU b) fun _ _ _ h => h) hv
theorem FnD.fn {P : Program} {f : Nat} {cs : List (Bool × List C)} {r : Rs} (h : FnD P f cs r) : Fn P f cs r := fun S vals w ha => (h S vals w ha).mono fun _ _ ⟨v, e, hr, hE⟩ => ⟨v, e, hr.wider fun _ f => f.elim, hE⟩

/-! ### data behind such a change -/
def C.len : C → Nat
  | .sq _ rows => rows.length
  | _ => 0
/-- how long the slices in the rows are -/
def shp (rows : List (List C)) : List (List Nat) := rows.map fun r => r.map C.len
def C.Sh (c c' : C) : Prop := c'.kd = c.kd ∧ c'.len = c.len ∧ ∀ ks rows, c = .sq ks rows → ∃ rows', c' = .sq ks rows' ∧ shp rows' = shp rows
def regroup {α β : Type} : List (List α) → List β → List (List β)
  | [], _ => []
  | r :: rs, l => l.take r.length :: regroup rs (l.drop r.length)
theorem regroup_ok {α β : Type} {R : α → β → Prop} : ∀ (rows : List (List α)) (l : List β), All2 R rows.flatten l → (regroup rows l).flatten = l ∧ All2 (All2 R) rows (regroup rows l)
  | [], l, h => by
    have : l = [] := by have := h.1; simp at this; exact List.eq_nil_of_length_eq_zero this.symm
    subst this; exact ⟨rfl, All2.nil⟩
  | r :: rs, l, h => by
    have h1 : All2 R r (l.take r.length) := by have := h.take r.length; simpa using this
    have h2 : All2 R rs.flatten (l.drop r.length) := by have := h.drop r.length; simpa using this
    obtain ⟨e1, e2⟩ := regroup_ok rs _ h2
    exact ⟨by simp [regroup, e1], All2.cons h1 e2⟩
theorem shp_of {rows rows' : List (List C)} (h : All2 (All2 C.Sh) rows rows') : shp rows' = shp rows ∧ ∀ ks : List Kd, (∀ r ∈ rows, r.map C.kd = ks) → ∀ r ∈ rows', r.map C.kd = ks := by
  have key : ∀ {β : Type} (f : C → β) {r r' : List C}, All2 C.Sh r r' → (∀ c c', C.Sh c c' → f c' = f c) → r'.map f = r.map f := by
    intro β f r r' h hf
    apply List.ext_getElem?
    intro j
    simp only [List.getElem?_map]
    cases hj : r'[j]? with
    | none =>
      have : r[j]? = none := by simp only [List.getElem?_eq_none_iff] at hj ⊢; rw [h.1]; exact hj
      simp [this]
    | some c' =>
      obtain ⟨c, hc, hs⟩ := h.get hj
      simp [hc, hf c c' hs]
  refine ⟨?_, fun ks hk r' hr' => ?_⟩
  · unfold shp
    apply List.ext_getElem?
    intro j
    simp only [List.getElem?_map]
    cases hj : rows'[j]? with
    | none =>
      have : rows[j]? = none := by simp only [List.getElem?_eq_none_iff] at hj ⊢; rw [h.1]; exact hj
      simp [this]
    | some r' =>
      obtain ⟨r, hr, hs⟩ := h.get hj
      simp [hr, key C.len hs fun _ _ h => h.2.1]
  · obtain ⟨j, hj⟩ := List.getElem?_of_mem hr'
    obtain ⟨r, hr, hs⟩ := h.get hj
    rw [key C.kd hs fun _ _ h => h.1]
    exact hk r (List.mem_of_getElem? hr)
section
variable {w w' : World} {U : Nat → Prop}
theorem Rd.hvG (he : HExt w w' U) {v : Value} {c : C} (h : Rd w U v c) : ∀ v', IntCh v v' → ∃ c', C.Sh c c' ∧ Rd w' U v' c' := by
  have lists : ∀ (a : Addr) (xs : List Value) (cs : List C), xs.length = cs.length → (xs ≠ [] → U a.block) → (∀ (j : Nat) v, xs[j]? = some v → w.cell? (a.add j) = some v) →
      (∀ (j : Nat) v c, xs[j]? = some v → cs[j]? = some c → ∀ v', IntCh v v' → ∃ c', C.Sh c c' ∧ Rd w' U v' c') →
      ∃ (xs' : List Value) (cs' : List C), xs'.length = xs.length ∧ All2 C.Sh cs cs' ∧ (∀ (j : Nat) v, xs'[j]? = some v → w'.cell? (a.add j) = some v) ∧ All2 (Rd w' U) xs' cs' := by
    intro a xs cs hl hS hr hd
    have hne : ∀ (j : Nat) v, xs[j]? = some v → U a.block := fun j v hv => hS (by intro e; subst e; simp at hv)
    have hex : ∀ (j : Nat) c, cs[j]? = some c → ∃ u, ∃ c', C.Sh c c' ∧ w'.cell? (a.add j) = some u ∧ Rd w' U u c' := fun j c hc => by
      have hj : j < xs.length := by rw [hl]; exact (List.getElem?_eq_some_iff.1 hc).1
      have hx := List.getElem?_eq_getElem hj
      obtain ⟨u', h1, h2⟩ := he.cell (a.add j) xs[j] (by rw [add_block]; exact hne j _ hx) (hr j _ hx)
      obtain ⟨c', h3, h4⟩ := hd j _ c hx hc u' h2
      exact ⟨u', c', h3, h1, h4⟩
    have key : ∀ (n : Nat) (l : List C), (∀ (j : Nat) c, l[j]? = some c → ∃ u, ∃ c', C.Sh c c' ∧ w'.cell? (a.add (n + j)) = some u ∧ Rd w' U u c') →
        ∃ (xs' : List Value) (cs' : List C), xs'.length = l.length ∧ All2 C.Sh l cs' ∧ (∀ (j : Nat) v, xs'[j]? = some v → w'.cell? (a.add (n + j)) = some v) ∧ All2 (Rd w' U) xs' cs' := by
      intro n l
      induction l generalizing n with
      | nil => intro _; exact ⟨[], [], rfl, All2.nil, fun j v h => by simp at h, All2.nil⟩
      | cons c l ih =>
        intro hh
        obtain ⟨u, c', g1, g2, g3⟩ := hh 0 c rfl
        obtain ⟨xs', cs', f1, f2, f3, f4⟩ := ih (n + 1) (fun j c hj => by
          have := hh (j + 1) c (by simpa using hj)
          rwa [show n + (j + 1) = n + 1 + j by omega] at this)
        refine ⟨u :: xs', c' :: cs', by simp [f1], f2.cons g1, fun j v hv => ?_, f4.cons g3⟩
        cases j with
        | zero => simp at hv; subst hv; exact g2
        | succ j => rw [show n + (j + 1) = n + 1 + j by omega]; exact f3 j v (by simpa using hv)
    obtain ⟨xs', cs', f1, f2, f3, f4⟩ := key 0 cs (fun j c hc => by rw [Nat.zero_add]; exact hex j c hc)
    exact ⟨xs', cs', by rw [f1, hl], f2, fun j v hv => by have := f3 j v hv; rwa [Nat.zero_add] at this, f4⟩
  have stay : ∀ {v v' : Value}, IntCh v v' → (∀ k n, v ≠ .int k n) → v' = v := fun h hn => h.elim id fun ⟨k, n, _, e, _⟩ => absurd e (hn k n)
  induction h with
  | int k n =>
    intro v' hv
    rcases hv with rfl | ⟨k', n', m, e, rfl⟩
    · exact ⟨.int k n, ⟨rfl, rfl, fun _ _ e => by cases e⟩, .int k n⟩
    · cases e; exact ⟨.int k m, ⟨rfl, rfl, fun _ _ e => by cases e⟩, .int k m⟩
  | bool b =>
    intro v' hv
    rw [stay hv (fun _ _ e => by cases e)]
    exact ⟨.bool b, ⟨rfl, rfl, fun _ _ e => by cases e⟩, .bool b⟩
  | nil ks =>
    intro v' hv
    rw [stay hv (fun _ _ e => by cases e)]
    exact ⟨.sq ks [], ⟨rfl, rfl, fun _ _ e => by cases e; exact ⟨[], rfl, rfl⟩⟩, .nil ks⟩
  | sq a n cap ks rows xs hn hcap hk hS hl hr hd ih =>
    intro v' hv
    rw [stay hv (fun _ _ e => by cases e)]
    obtain ⟨xs', cs', f1, f2, f3, f4⟩ := lists a xs rows.flatten hl hS hr ih
    obtain ⟨e1, e2⟩ := regroup_ok rows cs' f2
    obtain ⟨e3, e4⟩ := shp_of e2
    refine ⟨.sq ks (regroup rows cs'), ⟨rfl, e2.1.symm, fun ks' rows' e => by cases e; exact ⟨_, rfl, e3⟩⟩, ?_⟩
    refine .sq a n cap ks _ xs' (e2.1.symm.trans hn) hcap (e4 ks hk) (fun hne => hS fun e => hne ?_) (by rw [e1]; exact f4.1) f3 (fun j u c hu hc => f4.2 j u c hu (by rwa [e1] at hc))
    subst e; exact List.eq_nil_of_length_eq_zero f1
  | ptr a cells xs hS hl hr hd ih =>
    intro v' hv
    rw [stay hv (fun _ _ e => by cases e)]
    obtain ⟨xs', cs', f1, f2, f3, f4⟩ := lists a xs cells hl hS hr ih
    refine ⟨.ptr cs', ⟨rfl, rfl, fun _ _ e => by cases e⟩, .ptr a cs' xs' (fun hne => hS fun e => hne ?_) f4.1 f3 (fun j u c hu hc => f4.2 j u c hu hc)⟩
    subst e; exact List.eq_nil_of_length_eq_zero f1
  | fn f cs xs hl hd ih =>
    intro v' hv
    rw [stay hv (fun _ _ e => by cases e)]
    have key : ∀ (xs : List Value) (cs : List C), xs.length = cs.length → (∀ (j : Nat) v c, xs[j]? = some v → cs[j]? = some c → ∃ c', C.Sh c c' ∧ Rd w' U v c') → ∃ cs', All2 (Rd w' U) xs cs' := by
      intro xs
      induction xs with
      | nil => intro cs _ _; exact ⟨[], All2.nil⟩
      | cons y ys ih2 =>
        intro cs hl2 hh
        cases cs with
        | nil => simp at hl2
        | cons c cs =>
          obtain ⟨c', _, h2⟩ := hh 0 y c rfl rfl
          obtain ⟨cs', h3⟩ := ih2 cs (by simpa using hl2) fun j v c hv hc => hh (j + 1) v c (by simpa using hv) (by simpa using hc)
          exact ⟨c' :: cs', h3.cons h2⟩
    obtain ⟨cs', h2⟩ := key xs cs hl fun j v c hv hc => ih j v c hv hc v (.inl rfl)
    exact ⟨.fn f cs', ⟨rfl, rfl, fun _ _ e => by cases e⟩, .fn f cs' xs h2.1 (fun j u c hu hc => h2.2 j u c hu hc)⟩
theorem Rd.hv (he : HExt w w' U) {v : Value} {ks : List Kd} {rows : List (List C)} (h : Rd w U v (.sq ks rows)) : ∃ rows', shp rows' = shp rows ∧ Rd w' U v (.sq ks rows') := by
  obtain ⟨c', ⟨_, _, h1⟩, h2⟩ := h.hvG he v (.inl rfl)
  obtain ⟨rows', rfl, h3⟩ := h1 ks rows rfl
  exact ⟨rows', h3, h2⟩
end

/-! ### states behind such a change -/
def hvS : Sc → (Sc → Prop) → Prop
  | .ro ks rows, K => ∀ rows', shp rows' = shp rows → K (.ro ks rows')
  | .vw _ _ _, K => K .any
  | .rp _, K => K .any
  | .vp _ _, K => K .any
  | .fn _ _, K => K .any
  | s, K => K s
def hvSs : List Sc → (List Sc → Prop) → Prop
  | [], K => K []
  | s :: r, K => hvS s fun s' => hvSs r fun r' => K (s' :: r')
def hvV : V → (V → Prop) → Prop
  | .one s, K => hvS s fun s' => K (.one s')
  | .agg ss, K => hvSs ss fun ss' => K (.agg ss')
  | .tup _, K => K (.one .any)
def hvL : List (Nat × V) → (List (Nat × V) → Prop) → Prop
  | [], K => K []
  | (t, V) :: r, K => hvV V fun V' => hvL r fun r' => K ((t, V') :: r')
/-- parts of values that such a change leaves as they are -/
def calmS : Sc → Bool
  | .ro _ _ => false
  | .vw _ _ _ => false
  | .rp _ => false
  | .vp _ _ => false
  | .fn _ _ => false
  | _ => true
theorem calmS_hv {s : Sc} (h : calmS s = true) (K : Sc → Prop) : hvS s K = K s := by
  cases s <;> first | rfl | cases h
/-- rows without slices, boxes of such parts -/
def flatOb (ob : List (Nat × Ob)) : Bool := ob.all fun p => match p.2 with
  | .row _ ks _ => ks.all Kd.flat
  | .box ss => ss.all calmS
theorem flatOb_get : ∀ {ob : List (Nat × Ob)}, flatOb ob = true → ∀ j o, look ob j = some o → (∃ ty ks rows, o = .row ty ks rows ∧ ks.all Kd.flat = true) ∨ ∃ ss, o = .box ss ∧ ss.all calmS = true
  | [], _, j, o, h => by simp [look] at h
  | (k, x) :: r, hb, j, o, h => by
    simp only [flatOb, List.all_cons, Bool.and_eq_true] at hb
    simp only [look_cons] at h
    split at h
    · cases h
      cases x with
      | row ty ks rows => exact .inl ⟨ty, ks, rows, rfl, hb.1⟩
      | box ss => exact .inr ⟨ss, rfl, hb.1⟩
    · exact flatOb_get hb.2 j o h
section
variable {x : Cx} {σ : St} {ρ : Nat → Value} {a : Act} {w w' : World}
theorem flat_rd2 {S S' : Nat → Prop} {u : Value} {c : C} (h : Rd w S u c) (hf : c.kd.flat = true) : Rd w' S' u c := by
  cases c with
  | int k n => rw [h.int_inv]; exact .int _ _
  | bool b => rw [h.bool_inv]; exact .bool _
  | sq ks rows => simp [C.kd, Kd.flat] at hf
  | ptr _ => simp [C.kd, Kd.flat] at hf
  | fn _ _ => simp [C.kd, Kd.flat] at hf
theorem hvS_any : ∀ (s : Sc) (K : Sc → Prop), hvS s K → ∃ s', K s' := by
  intro s K h
  cases s <;> first | exact ⟨_, h⟩ | exact ⟨_, h _ rfl⟩
theorem hvSs_any : ∀ (ss : List Sc) (K : List Sc → Prop), hvSs ss K → ∃ s', K s'
  | [], K, h => ⟨[], h⟩
  | s :: r, K, h => by
    obtain ⟨s', h1⟩ := hvS_any s _ h
    obtain ⟨r', h2⟩ := hvSs_any r _ h1
    exact ⟨_, h2⟩
theorem hvV_any (V : V) (K : Vq.V → Prop) (h : hvV V K) : ∃ V', K V' := by
  cases V with
  | one s => obtain ⟨s', h⟩ := hvS_any s _ h; exact ⟨_, h⟩
  | agg ss => obtain ⟨s', h⟩ := hvSs_any ss _ h; exact ⟨_, h⟩
  | tup ps => exact ⟨_, h⟩
theorem hvL_any : ∀ (sl : List (Nat × V)) (K : List (Nat × V) → Prop), hvL sl K → ∃ s', K s'
  | [], K, h => ⟨[], h⟩
  | (t, V) :: r, K, h => by
    obtain ⟨s', h1⟩ := hvV_any V _ h
    obtain ⟨r', h2⟩ := hvL_any r _ h1
    exact ⟨_, h2⟩
theorem hvS_mono {K K' : Sc → Prop} (h : ∀ s, K s → K' s) (s : Sc) (hs : hvS s K) : hvS s K' := by
  cases s <;> first | exact h _ hs | exact fun rows' e => h _ (hs rows' e)
theorem hvSs_mono : ∀ {K K' : List Sc → Prop}, (∀ s, K s → K' s) → ∀ ss, hvSs ss K → hvSs ss K'
  | _, _, h, [], hs => h _ hs
  | _, _, h, s :: r, hs => hvS_mono (fun _ h1 => hvSs_mono (fun _ h2 => h _ h2) r h1) s hs
theorem hvV_mono {K K' : V → Prop} (h : ∀ s, K s → K' s) (s : V) (hs : hvV s K) : hvV s K' := by
  cases s with
  | one s => exact hvS_mono (fun _ h1 => h _ h1) s hs
  | agg ss => exact hvSs_mono (fun _ h1 => h _ h1) ss hs
  | tup ps => exact h _ hs
theorem hvL_mono : ∀ {K K' : List (Nat × V) → Prop}, (∀ s, K s → K' s) → ∀ sl, hvL sl K → hvL sl K'
  | _, _, h, [], hs => h _ hs
  | _, _, h, (_, V) :: r, hs => hvV_mono (fun _ h1 => hvL_mono (fun _ h2 => h _ h2) r h1) V hs
theorem Sc.killL_nil (s : Sc) : s.killL [] = s := by cases s <;> rfl
theorem V.killL_nil (V : V) : V.killL [] = V := by
  have e : Sc.killL [] = id := by funext s; exact Sc.killL_nil s
  cases V with
  | one s => simp [Vq.V.killL, Sc.killL_nil]
  | agg ss => simp [Vq.V.killL, e]
  | tup ps => simp [Vq.V.killL, e]
theorem Ob.killL_nil (o : Ob) : o.killL [] = o := by
  have e : Sc.killL [] = id := by funext s; exact Sc.killL_nil s
  cases o with
  | row => rfl
  | box ss => simp [Ob.killL, e]
theorem mapV_id {β : Type} {f : β → β} (h : ∀ x, f x = x) : ∀ l : List (Nat × β), mapV f l = l
  | [] => rfl
  | (k, x) :: r => by simp only [mapV, h, mapV_id h r]
theorem killL_nil (l : List (Nat × V)) : mapV (V.killL []) l = l := mapV_id V.killL_nil l
theorem killLO_nil (l : List (Nat × Ob)) : mapV (Ob.killL []) l = l := mapV_id Ob.killL_nil l
theorem SRel.hv (he : HExt w w' (x.U σ.ob ρ)) {v : Value} {s : Sc} (h : SRel w (x.U σ.ob ρ) σ.ob ρ v s) {K : Sc → Prop} (hK : hvS s K) : ∃ s', K s' ∧ SRel w' (x.U σ.ob ρ) σ.ob ρ v s' := by
  cases s with
  | ro ks rows =>
    obtain ⟨rows', h1, h2⟩ := Rd.hv he h
    exact ⟨_, hK rows' h1, h2⟩
  | vw id ks rows => exact ⟨_, hK, trivial⟩
  | rp cs => exact ⟨_, hK, trivial⟩
  | vp id cs => exact ⟨_, hK, trivial⟩
  | fn f cs => exact ⟨_, hK, trivial⟩
  | any => exact ⟨_, hK, trivial⟩
  | und => exact ⟨_, hK, h⟩
  | int k n => exact ⟨_, hK, h⟩
  | bool b => exact ⟨_, hK, h⟩
  | root id => exact ⟨_, hK, h⟩
  | nil => exact ⟨_, hK, h⟩
  | bx id off => exact ⟨_, hK, h⟩
  | ep id i off => exact ⟨_, hK, h⟩
  | fv id n => exact ⟨_, hK, h⟩
  | xr ks rows => exact ⟨_, hK, Rd.mono h (fun _ _ hb => hb) fun a u hx hu => he.ext.cell hx.1 hu⟩
  | xp cells =>
    refine ⟨_, hK, ?_⟩
    obtain ⟨a, rfl, h1, h2⟩ := h
    refine ⟨a, rfl, h1, fun j c hj => ?_⟩
    obtain ⟨u, hu, hr⟩ := h2 j c hj
    have hne : cells ≠ [] := by intro e; subst e; simp at hj
    exact ⟨u, he.ext.cell (by rw [add_block]; exact (h1 hne).1) hu, hr.mono (fun _ _ hb => hb) fun a u hx hu => he.ext.cell hx.1 hu⟩
theorem SRel.hvs (he : HExt w w' (x.U σ.ob ρ)) : ∀ {ss : List Sc} {vs : List Value}, All2 (SRel w (x.U σ.ob ρ) σ.ob ρ) vs ss → ∀ {K : List Sc → Prop}, hvSs ss K → ∃ ss', K ss' ∧ All2 (SRel w' (x.U σ.ob ρ) σ.ob ρ) vs ss'
  | [], vs, h, K, hK => ⟨[], hK, by rw [h.nil_right]; exact All2.nil⟩
  | s :: r, vs, h, K, hK => by
    obtain ⟨v, vs', rfl, h1, h2⟩ := h.cons_right
    obtain ⟨s', g1, g2⟩ := SRel.hv he h1 hK
    obtain ⟨r', f1, f2⟩ := SRel.hvs he h2 g1
    exact ⟨_, f1, f2.cons g2⟩
theorem VRel.hv (he : HExt w w' (x.U σ.ob ρ)) {v : Value} {V : V} (h : VRel w (x.U σ.ob ρ) σ.ob ρ v V) {K : Vq.V → Prop} (hK : hvV V K) : ∃ V', K V' ∧ VRel w' (x.U σ.ob ρ) σ.ob ρ v V' := by
  cases V with
  | one s =>
    obtain ⟨s', h1, h2⟩ := SRel.hv he h hK
    exact ⟨_, h1, h2⟩
  | agg ss =>
    obtain ⟨vs, rfl, h⟩ := h
    obtain ⟨ss', h1, h2⟩ := SRel.hvs he h hK
    exact ⟨_, h1, vs, rfl, h2⟩
  | tup ps => exact ⟨_, hK, trivial⟩
theorem hvL_rel (he : HExt w w' (x.U σ.ob ρ)) (tm : Nat → Value) : ∀ (sl : List (Nat × V)) (seen : List Nat), (∀ t V, t ∉ seen → look sl t = some V → VRel w (x.U σ.ob ρ) σ.ob ρ (tm t) V) → ∀ {K : List (Nat × V) → Prop}, hvL sl K →
    ∃ sl', K sl' ∧ ∀ t V, t ∉ seen → look sl' t = some V → VRel w' (x.U σ.ob ρ) σ.ob ρ (tm t) V
  | [], seen, h, K, hK => ⟨[], hK, fun t V _ hV => by simp [look] at hV⟩
  | (t0, V0) :: r, seen, h, K, hK => by
    have hr : ∀ t V, t ∉ t0 :: seen → look r t = some V → VRel w (x.U σ.ob ρ) σ.ob ρ (tm t) V := fun t V ht hV => by
      simp only [List.mem_cons, not_or] at ht
      exact h t V ht.2 (by rw [look_cons, if_neg (Ne.symm ht.1)]; exact hV)
    by_cases hs : t0 ∈ seen
    · obtain ⟨V', h1⟩ := hvV_any V0 _ hK
      obtain ⟨r', h2, h3⟩ := hvL_rel he tm r (t0 :: seen) hr h1
      refine ⟨_, h2, fun t V ht hV => ?_⟩
      rw [look_cons] at hV
      by_cases e : t0 = t
      · subst e; exact absurd hs ht
      · rw [if_neg e] at hV
        exact h3 t V (by simp only [List.mem_cons, not_or]; exact ⟨Ne.symm e, ht⟩) hV
    · obtain ⟨V', h1, hV'⟩ := VRel.hv he (h t0 V0 hs (by rw [look_cons, if_pos rfl])) hK
      obtain ⟨r', h2, h3⟩ := hvL_rel he tm r (t0 :: seen) hr h1
      refine ⟨_, h2, fun t V ht hV => ?_⟩
      rw [look_cons] at hV
      by_cases e : t0 = t
      · subst e; rw [if_pos rfl] at hV; cases hV; exact hV'
      · rw [if_neg e] at hV
        exact h3 t V (by simp only [List.mem_cons, not_or]; exact ⟨Ne.symm e, ht⟩) hV
/-- whole numbers change in memory that no object stands for -/
theorem Rel.hv (h : Rel x σ ρ a w) (hSM : ∀ b, x.S b → x.M b) (hf : flatOb σ.ob = true) (he : HExt w w' (x.U σ.ob ρ)) {K : List (Nat × V) → Prop} (hK : hvL σ.sl K) : ∃ sl', K sl' ∧ Rel x ⟨sl', σ.ob⟩ ρ a w' := by
  obtain ⟨sl', h1, h2⟩ := hvL_rel he (fun t => a.tmps.getD t undef) σ.sl [] (fun t V _ hV => h.slots t V hV) hK
  refine ⟨sl', h1, fun t V hV => h2 t V (by simp) hV, fun j o hj => ?_, h.sep, h.fresh, ⟨h.grow.toExt.trans he.ext fun b hb => ?_, fun hv a u ha hu => ?_⟩, h.defers, h.fix⟩
  · have hnU : ∀ b, blk (ρ j) = some b → ¬ x.U σ.ob ρ b := fun b hb hu => hu.2 ⟨j, _, hj, hb⟩
    rcases flatOb_get hf j o hj with ⟨ty, ks, rows, rfl, hfl⟩ | ⟨ss, rfl, hfl⟩
    · obtain ⟨xs, g1, g2, g3⟩ := h.objs j _ hj
      refine ⟨xs, ⟨g1.1, ?_⟩, g2, g3.mono' fun u _ c hc hr => flat_rd2 hr (flat_mem hfl g2 c hc)⟩
      rcases g1.2 with hn | ⟨g, cap, cur, e1, hb, hg, rest⟩
      · exact .inl hn
      · exact .inr ⟨g, cap, cur, e1, hb, by rw [he.ext.block g (Array.getElem?_eq_some_iff.1 hg).1 (hnU g (by rw [e1]; rfl))]; exact hg, rest⟩
    · obtain ⟨b, cs, ty, e1, hg, hr⟩ := h.objs j _ hj
      refine ⟨b, cs, ty, e1, by rw [he.ext.block b (Array.getElem?_eq_some_iff.1 hg).1 (hnU b (by rw [e1]; rfl))]; exact hg, hr.mono' fun u _ s hs q => ⟨q.1, ?_⟩⟩
      have hc := List.all_eq_true.1 hfl s hs
      obtain ⟨s', e, h3⟩ := SRel.hv he q.2 (K := fun s' => s' = s) (by rw [calmS_hv hc])
      rw [← e]; exact h3
  · rcases hb.1 with hb | hb | hb
    · exact .inl (hSM b hb)
    · exact .inl hb
    · exact .inr hb
  · obtain ⟨u', h3, h4⟩ := h.grow.hold hv a u ha hu
    by_cases hU : x.U σ.ob ρ a.block
    · obtain ⟨u'', h5, h6⟩ := he.cell a u' hU h3
      exact ⟨u'', h5, h4.trans h6⟩
    · exact ⟨u', he.ext.cell hU h3, h4⟩
/-- what has changed behind a run -/
theorem Rel.hext (h : Rel x σ ρ a w) (hv : x.hv = true) : HExt x.w0 w x.M := ⟨h.grow.toExt, h.grow.hold hv⟩
/-- a whole number in memory that may be changed becomes another -/
theorem HExt.setCell {U : Nat → Prop} {ad : Addr} {k : IntKind} {n : Int} (hU : U ad.block) (hc : w.cell? ad = some (.int k n)) (m : Int) : HExt w (w.setCell ad (.int k m)) U := by
  refine ⟨⟨rfl, rfl, by simp [World.setCell], fun b hb hM => ?_, fun b => ?_⟩, fun b u hb hu => ?_⟩
  · have : ¬ ad.block = b := fun e => hM (e ▸ hU)
    simp [World.setCell, Array.getElem?_modify, this]
  · by_cases hb : ad.block = b.block
    · cases ho : w.heap[b.block]? with
      | none => simp [World.frozen?, World.setCell, Array.getElem?_modify, hb, ho]
      | some o => cases o <;> simp [World.frozen?, World.setCell, Array.getElem?_modify, hb, ho]
    · simp [World.frozen?, World.setCell, Array.getElem?_modify, hb]
  · by_cases e : ad = b
    · subst e
      rw [hc] at hu; cases hu
      exact ⟨_, World.cell?_setCell_same _ _ _ hc, .inr ⟨k, n, m, rfl, rfl⟩⟩
    · exact ⟨u, (World.cell?_setCell_other _ _ _ _ e).trans hu, .inl rfl⟩
theorem HExt.refl (w : World) (U : Nat → Prop) : HExt w w U := ⟨Ext.refl w U, fun _ u _ hu => ⟨u, hu, .inl rfl⟩⟩
theorem HExt.trans {w'' : World} {U : Nat → Prop} (h : HExt w w' U) (h' : HExt w' w'' U) : HExt w w'' U :=
  ⟨h.ext.trans h'.ext fun _ hb => .inl hb, fun a u hb hu => by
    obtain ⟨u', h1, h2⟩ := h.cell a u hb hu
    obtain ⟨u'', h3, h4⟩ := h'.cell a u' hb h1
    exact ⟨u'', h3, h2.trans h4⟩⟩
end
end Go.Vq
