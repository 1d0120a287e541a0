/- Part R of the small logic: a whole function by what its code asks. No conditions. -/
import Derived.Test.YtcibheinilkcoaaVcQ
namespace Go.Vq
open Go.RowKit

/-! ### the end -/
def finP (ob : List (Nat × Ob)) : List Sc → List Rc → Prop
  | [], [] => True
  | s :: ss, c :: cs => (match s, c with
    | .int k n, .int k' n' => k = k' ∧ n = n'
    | .bool b, .bool b' => b = b'
    | .root id, .own ty' ks' rows' => match look ob id with
      | some (.row ty ks rows) => ty = ty' ∧ ks = ks' ∧ rows = rows'
      | _ => False
    | .nil, .own _ _ rows' => rows' = []
    | .ro ks rows, .fz ks' rows' => ks = ks' ∧ rows = rows'
    | .nil, .fz _ rows' => rows' = []
    | .bx id off, .bx bs => off = 0 ∧ match look ob id with
      | some (.box ss) => ss = bs.map C.toS
      | _ => False
    | _, _ => False) ∧ finP ob ss cs
  | _, _ => False
def finM (d : Nat) : List Sc → List Rc → List (Nat × Option Nat)
  | .root id :: ss, .own .. :: cs => (d, some id) :: finM (d + 1000) ss cs
  | .nil :: ss, .own .. :: cs => (d, none) :: finM (d + 1000) ss cs
  | .bx id _ :: ss, .bx _ :: cs => (d, some id) :: finM (d + 1000) ss cs
  | _ :: ss, _ :: cs => finM d ss cs
  | _, _ => []
def ids : List (Nat × Option Nat) → List Nat
  | [] => []
  | (_, some i) :: r => i :: ids r
  | (_, none) :: r => ids r
def nodupB : List Nat → Bool
  | [] => true
  | i :: r => match memN i r with
    | true => false
    | false => nodupB r
def tupP (ob : List (Nat × Ob)) : List V → List (Bool × List Rc) → Prop
  | [], [] => True
  | .one s :: Vs, (false, cs) :: ps => finP ob [s] cs ∧ tupP ob Vs ps
  | .agg ss :: Vs, (true, cs) :: ps => finP ob ss cs ∧ tupP ob Vs ps
  | _, _ => False
def tupM (d : Nat) : List V → List (Bool × List Rc) → List (Nat × Option Nat)
  | .one s :: Vs, (_, cs) :: ps => finM d [s] cs ++ tupM (nxt d cs) Vs ps
  | .agg ss :: Vs, (_, cs) :: ps => finM d ss cs ++ tupM (nxt d cs) Vs ps
  | _, _ => []
def fin (ob : List (Nat × Ob)) (Vs : List V) : Rs → Prop
  | .one c => match Vs with
    | [.one s] => finP ob [s] [c]
    | _ => False
  | .agg cs => match Vs with
    | [.agg ss] => finP ob ss cs ∧ nodupB (ids (finM 0 ss cs)) = true
    | _ => False
  | .tup ps => Vs.length ≠ 1 ∧ tupP ob Vs ps ∧ nodupB (ids (tupM 0 Vs ps)) = true
/-- where a result lies: a slot, or a box of n cells -/
inductive RV where
  | tmp (t : Nat)
  | cell (a t n : Nat)
def RV.res : RV → ResultVar
  | .tmp t => .tmp t
  | .cell a t _ => .cell a t
def RV.okB (ty : List (Nat × Td)) : RV → Bool
  | .tmp _ => true
  | .cell _ t n => match look ty t with
    | some d => d.sh.agg && Nat.beq d.ks.length n
    | none => false
def rv (σ : St) : RV → Option V
  | .tmp t => some (ev σ (.tmp t))
  | .cell a _ n => match ev σ (.tmp a) with
    | .one (.bx id 0) => match look σ.ob id with
      | some (.box ss) => match Nat.beq ss.length n with
        | true => some (.agg ss)
        | false => none
      | _ => none
    | _ => none
def rvs (σ : St) : List RV → Option (List V)
  | [] => some []
  | x :: r => match rv σ x, rvs σ r with
    | some v, some vs => some (v :: vs)
    | _, _ => none
/-- where the objects of a result lie -/
def resM (Vs : List V) : Rs → List (Nat × Option Nat)
  | .one c => match Vs with
    | [.one s] => finM 0 [s] [c]
    | _ => []
  | .agg cs => match Vs with
    | [.agg ss] => finM 0 ss cs
    | _ => []
  | .tup ps => tupM 0 Vs ps
/-- what became of what was handed over -/
def finO (ob : List (Nat × Ob)) : Nat → List Mo → Prop
  | _, [] => True
  | n, o :: r => look ob n = some o.ob ∧ finO ob (n + 1) r
def lowB (l : List Nat) : Bool := l.all fun i => Nat.blt i 500000
def finK (ts : List RV) (r : Rs) (os : List Mo) : AEx → St → Prop
  | .exit _, _ => False
  | _, σ => match rvs σ ts with
    | some Vs => fin σ.ob Vs r ∧ (match os with
      | [] => True
      | os => finO σ.ob 500000 os ∧ lowB (ids (resM Vs r)) = true)
    | none => False

section
variable {P : Program} {x : Cx} {σ : St} {ρ : Nat → Value} {a : Act} {w : World} {ob : List (Nat × Ob)}

theorem finM_get : ∀ {ss : List Sc} {cs : List Rc} {d j : Nat} {o : Ob}, finP ob ss cs → look (obsOf d cs) j = some o → ∃ q, look (finM d ss cs) j = some q ∧ (match q with
    | some id => look ob id = some o
    | none => ∃ ty ks, o = .row ty ks [])
  | [], [], d, j, o, _, h => by simp [obsOf, look] at h
  | s :: ss, c :: cs, d, j, o, hp, h => by
    obtain ⟨h1, h2⟩ := hp
    cases c with
    | int k n => simp only [obsOf] at h; obtain ⟨q, hq, hr⟩ := finM_get h2 h; exact ⟨q, by cases s <;> simpa only [finM] using hq, hr⟩
    | bool b => simp only [obsOf] at h; obtain ⟨q, hq, hr⟩ := finM_get h2 h; exact ⟨q, by cases s <;> simpa only [finM] using hq, hr⟩
    | fz ks rows => simp only [obsOf] at h; obtain ⟨q, hq, hr⟩ := finM_get h2 h; exact ⟨q, by cases s <;> simpa only [finM] using hq, hr⟩
    | bx bs =>
      cases s with
      | bx id off =>
        simp only at h1
        obtain ⟨_, h1⟩ := h1
        split at h1
        · rename_i ss' hob
          subst h1
          simp only [obsOf, look] at h
          simp only [finM, look]
          split at h
          · rename_i hd; rw [if_pos hd]; cases h; exact ⟨_, rfl, hob⟩
          · rename_i hd; rw [if_neg hd]; exact finM_get h2 h
        · exact h1.elim
      | _ => exact h1.elim
    | own ty ks rows =>
      cases s with
      | root id =>
        simp only at h1
        split at h1
        · rename_i ty' ks' rows' hob
          obtain ⟨rfl, rfl, rfl⟩ := h1
          simp only [obsOf, look] at h
          simp only [finM, look]
          split at h
          · rename_i hd; rw [if_pos hd]; cases h; exact ⟨_, rfl, hob⟩
          · rename_i hd; rw [if_neg hd]; exact finM_get h2 h
        · exact h1.elim
      | nil =>
        simp only at h1; subst h1
        simp only [obsOf, look] at h
        simp only [finM, look]
        split at h
        · rename_i hd; rw [if_pos hd]; cases h; exact ⟨_, rfl, _, _, rfl⟩
        · rename_i hd; rw [if_neg hd]; exact finM_get h2 h
      | _ => exact h1.elim
  | [], _ :: _, _, _, _, hp, _ => hp.elim
  | _ :: _, [], _, _, _, hp, _ => hp.elim

theorem finM_none : ∀ {ss : List Sc} {cs : List Rc} {d j : Nat}, finP ob ss cs → look (obsOf d cs) j = none → look (finM d ss cs) j = none
  | [], [], d, j, _, _ => rfl
  | s :: ss, c :: cs, d, j, hp, h => by
    obtain ⟨h1, h2⟩ := hp
    cases c with
    | int k n => simp only [obsOf] at h; have := finM_none h2 h; cases s <;> simpa only [finM] using this
    | bool b => simp only [obsOf] at h; have := finM_none h2 h; cases s <;> simpa only [finM] using this
    | fz ks rows => simp only [obsOf] at h; have := finM_none h2 h; cases s <;> simpa only [finM] using this
    | own ty ks rows =>
      simp only [obsOf, look] at h
      split at h
      · cases h
      · rename_i hd
        cases s with
        | root id => simp only [finM, look, if_neg hd]; exact finM_none h2 h
        | nil => simp only [finM, look, if_neg hd]; exact finM_none h2 h
        | _ => exact h1.elim
    | bx bs =>
      simp only [obsOf, look] at h
      split at h
      · cases h
      · rename_i hd
        cases s with
        | bx id off => simp only [finM, look, if_neg hd]; exact finM_none h2 h
        | _ => exact h1.elim
  | [], _ :: _, _, _, hp, _ => hp.elim
  | _ :: _, [], _, _, hp, _ => hp.elim

/-- the numbers by which a result's objects go, told from the call's own -/
def mapρ (m : List (Nat × Option Nat)) (ρ : Nat → Value) : Nat → Value := fun j => match look m j with
  | some (some id) => ρ id
  | _ => .slice none 0 0

theorem finS_rel {U U' : Nat → Prop} {ob' : List (Nat × Ob)} {m : List (Nat × Option Nat)} (hU : ∀ b, U b → U' b) : ∀ {ss : List Sc} {cs : List Rc} {d : Nat} {vs : List Value}, finP ob ss cs →
    (∀ j q, look (finM d ss cs) j = some q → look m j = some q ∧ (look ob' j).isSome) → All2 (SRel w U ob ρ) vs ss → All2 (SRel w U' ob' (mapρ m ρ)) vs (scsOf d cs)
  | [], [], d, vs, _, _, h => by rw [All2.nil_right h]; exact All2.nil
  | s :: ss, c :: cs, d, vs, hp, hm, h => by
    obtain ⟨v, vs', rfl, h1, h2⟩ := h.cons_right
    obtain ⟨hp1, hp2⟩ := hp
    cases c with
    | int k n =>
      cases s <;> first | exact hp1.elim | skip
      obtain ⟨rfl, rfl⟩ := hp1
      exact All2.cons h1 (finS_rel hU hp2 (by simpa only [finM] using hm) h2)
    | bool b =>
      cases s <;> first | exact hp1.elim | skip
      simp only at hp1; subst hp1
      exact All2.cons h1 (finS_rel hU hp2 (by simpa only [finM] using hm) h2)
    | fz ks rows =>
      cases s <;> first | exact hp1.elim | skip
      · obtain ⟨rfl, rfl⟩ := hp1
        exact All2.cons (Rd.mono h1 (fun b _ => hU b) fun _ _ _ h => h) (finS_rel hU hp2 (by simpa only [finM] using hm) h2)
      · simp only at hp1; subst hp1
        exact All2.cons (by rw [show v = .slice none 0 0 from h1]; exact Rd.nil _) (finS_rel hU hp2 (by simpa only [finM] using hm) h2)
    | bx bs =>
      cases s with
      | bx id off =>
        simp only at hp1
        obtain ⟨rfl, hp1⟩ := hp1
        obtain ⟨b, g1, g2, g3⟩ := h1
        have h3 := hm d (some id) (by simp [finM, look])
        refine All2.cons ⟨b, by simp only [mapρ, h3.1]; exact g1, g2, h3.2⟩ (finS_rel hU hp2 (fun j q hq => hm j q ?_) h2)
        simp only [finM, look]
        split
        · rename_i hd; subst hd
          exfalso
          have hq' : look (finM (d + 1000) ss cs) d ≠ none := by rw [hq]; simp
          exact hq' (finM_none hp2 (by
            cases hz : look (obsOf (d + 1000) cs) d with
            | none => rfl
            | some o => have := obsOf_ge (d + 1000) cs d (by simp [hz]); omega))
        · exact hq
      | _ => exact hp1.elim
    | own ty ks rows =>
      cases s with
      | root id =>
        simp only at hp1
        split at hp1
        · obtain ⟨rfl, rfl, rfl⟩ := hp1
          have h3 := hm d (some id) (by simp [finM, look])
          refine All2.cons ⟨by simp only [mapρ, h3.1]; exact h1.1, h3.2⟩ (finS_rel hU hp2 (fun j q hq => hm j q ?_) h2)
          simp only [finM, look]
          split
          · rename_i hd; subst hd
            exfalso
            have hq' : look (finM (d + 1000) ss cs) d ≠ none := by rw [hq]; simp
            exact hq' (finM_none hp2 (by
              cases hz : look (obsOf (d + 1000) cs) d with
              | none => rfl
              | some o => have := obsOf_ge (d + 1000) cs d (by simp [hz]); omega))
          · exact hq
        · exact hp1.elim
      | nil =>
        simp only at hp1; subst hp1
        have h3 := hm d none (by simp [finM, look])
        refine All2.cons ⟨by simp only [mapρ, h3.1]; exact h1, h3.2⟩ (finS_rel hU hp2 (fun j q hq => hm j q ?_) h2)
        simp only [finM, look]
        split
        · rename_i hd; subst hd
          exfalso
          have hq' : look (finM (d + 1000) ss cs) d ≠ none := by rw [hq]; simp
          exact hq' (finM_none hp2 (by
            cases hz : look (obsOf (d + 1000) cs) d with
            | none => rfl
            | some o => have := obsOf_ge (d + 1000) cs d (by simp [hz]); omega))
        · exact hq
      | _ => exact hp1.elim
  | [], _ :: _, _, _, hp, _, _ => hp.elim
  | _ :: _, [], _, _, hp, _, _ => hp.elim

theorem nodup_inj : ∀ {m : List (Nat × Option Nat)}, nodupB (ids m) = true → ∀ {i j id : Nat}, look m i = some (some id) → look m j = some (some id) → i = j
  | [], _, i, j, id, h, _ => by simp [look] at h
  | (k, none) :: r, hn, i, j, id, h1, h2 => by
    simp only [look_cons] at h1 h2
    split at h1
    · cases h1
    · split at h2
      · cases h2
      · exact nodup_inj (m := r) hn h1 h2
  | (k, some q) :: r, hn, i, j, id, h1, h2 => by
    have mem : ∀ {r : List (Nat × Option Nat)} {i id : Nat}, look r i = some (some id) → id ∈ ids r := by
      intro r
      induction r with
      | nil => intro i id h; simp [look] at h
      | cons p r ih =>
        obtain ⟨k, q⟩ := p
        intro i id h
        simp only [look_cons] at h
        split at h
        · cases h; simp [ids]
        · cases q with
          | none => simpa [ids] using ih h
          | some q => simp [ids, ih h]
    simp only [ids, nodupB] at hn
    split at hn
    · cases hn
    · rename_i hm
      have hnm : q ∉ ids r := fun hq => by rw [(memN_iff q (ids r)).2 hq] at hm; cases hm
      simp only [look_cons] at h1 h2
      split at h1
      · rename_i hki
        cases h1
        split at h2
        · rename_i hkj; omega
        · exact absurd (mem h2) hnm
      · split at h2
        · cases h2; exact absurd (mem h1) hnm
        · exact nodup_inj hn h1 h2

theorem tupM_get : ∀ {Vs : List V} {ps : List (Bool × List Rc)} {d j : Nat} {o : Ob}, tupP ob Vs ps → look (tupO d ps) j = some o → ∃ q, look (tupM d Vs ps) j = some q ∧ (match q with
    | some id => look ob id = some o
    | none => ∃ ty ks, o = .row ty ks [])
  | [], [], d, j, o, _, h => by simp [tupO, look] at h
  | .one s :: Vs, (false, cs) :: ps, d, j, o, hp, h => by
    simp only [tupO, look_append] at h
    simp only [tupM, look_append]
    cases h1 : look (obsOf d cs) j with
    | some o' => rw [h1] at h; cases h; obtain ⟨q, hq, hr⟩ := finM_get hp.1 h1; exact ⟨q, by rw [hq]; rfl, hr⟩
    | none => rw [h1] at h; rw [finM_none hp.1 h1]; exact tupM_get hp.2 (by simpa using h)
  | .agg ss :: Vs, (true, cs) :: ps, d, j, o, hp, h => by
    simp only [tupO, look_append] at h
    simp only [tupM, look_append]
    cases h1 : look (obsOf d cs) j with
    | some o' => rw [h1] at h; cases h; obtain ⟨q, hq, hr⟩ := finM_get hp.1 h1; exact ⟨q, by rw [hq]; rfl, hr⟩
    | none => rw [h1] at h; rw [finM_none hp.1 h1]; exact tupM_get hp.2 (by simpa using h)
  | .one _ :: _, (true, _) :: _, _, _, _, hp, _ => hp.elim
  | .agg _ :: _, (false, _) :: _, _, _, _, hp, _ => hp.elim
  | .tup _ :: _, _, _, _, _, hp, _ => by simp [tupP] at hp
  | [], _ :: _, _, _, _, hp, _ => hp.elim
  | .one _ :: _, [], _, _, _, hp, _ => hp.elim
  | .agg _ :: _, [], _, _, _, hp, _ => hp.elim
theorem tupM_none : ∀ {Vs : List V} {ps : List (Bool × List Rc)} {d j : Nat}, tupP ob Vs ps → look (tupO d ps) j = none → look (tupM d Vs ps) j = none
  | [], [], d, j, _, _ => rfl
  | .one s :: Vs, (false, cs) :: ps, d, j, hp, h => by
    simp only [tupO, look_append, Option.or_eq_none_iff] at h
    simp only [tupM, look_append, Option.or_eq_none_iff]
    exact ⟨finM_none hp.1 h.1, tupM_none hp.2 h.2⟩
  | .agg ss :: Vs, (true, cs) :: ps, d, j, hp, h => by
    simp only [tupO, look_append, Option.or_eq_none_iff] at h
    simp only [tupM, look_append, Option.or_eq_none_iff]
    exact ⟨finM_none hp.1 h.1, tupM_none hp.2 h.2⟩
  | .one _ :: _, (true, _) :: _, _, _, hp, _ => hp.elim
  | .agg _ :: _, (false, _) :: _, _, _, hp, _ => hp.elim
  | .tup _ :: _, _, _, _, hp, _ => by simp [tupP] at hp
  | [], _ :: _, _, _, hp, _ => hp.elim
  | .one _ :: _, [], _, _, hp, _ => hp.elim
  | .agg _ :: _, [], _, _, hp, _ => hp.elim

/-- the objects of a result, as a state of their own -/
theorem Rel.out (h : Rel x σ ρ a w) {y : Cx} (hy : y.S = x.S ∧ y.w0 = x.w0 ∧ y.M = x.M ∧ y.hv = x.hv) {O : List (Nat × Ob)} {m : List (Nat × Option Nat)} (hm : ∀ j o, look O j = some o → ∃ q, look m j = some q ∧ (match q with
    | some id => look σ.ob id = some o
    | none => ∃ ty ks, o = .row ty ks [])) (hrow : ∀ j o, look O j = some o → ObOf false o) (hnd : nodupB (ids m) = true)
    (hF : ∀ j v, y.F j = some v → x.F j = some v ∧ look m j = some (some j) ∧ (look O j).isSome) :
    Rel y ⟨[], O⟩ (mapρ m ρ) ⟨#[], []⟩ w ∧ ∀ b, x.U σ.ob ρ b → Cx.U y O (mapρ m ρ) b := by
  obtain ⟨hS, hw0, hM, hhv⟩ := hy
  have hmap : ∀ j o b, look O j = some o → blk (mapρ m ρ j) = some b → ∃ id, look m j = some (some id) ∧ look σ.ob id = some o ∧ blk (ρ id) = some b := by
    intro j o b ho hb
    obtain ⟨q, hq, hr⟩ := hm j o ho
    simp only [mapρ, hq] at hb
    cases q with
    | none => cases hb
    | some id => exact ⟨id, hq, hr, hb⟩
  have hU : ∀ b, x.U σ.ob ρ b → Cx.U y O (mapρ m ρ) b := by
    rintro b ⟨h1, h2⟩
    refine ⟨by rw [hS, hw0, hM]; exact h1, ?_⟩
    rintro ⟨j, o, ho, hb⟩
    obtain ⟨id, _, h3, h4⟩ := hmap j o b ho hb
    exact h2 ⟨id, o, h3, h4⟩
  refine ⟨⟨fun t V hV => by simp [look] at hV, fun j o ho => ?_, fun i j oi oj b hi hj hbi hbj => ?_, fun i o b hi hb => ?_, ⟨by rw [hw0, hM]; exact h.grow.toExt, by rw [hw0, hM, hhv]; exact h.grow.hold⟩, rfl, fun j v hv => ?_⟩, hU⟩
  · obtain ⟨q, hq, hr⟩ := hm j o ho
    cases q with
    | none =>
      obtain ⟨ty, ks, rfl⟩ := hr
      simp only [mapρ, hq]
      exact ⟨[], World.ownsRow_nil w 0 _ _, (fun r hr => absurd hr (by simp)), All2.nil⟩
    | some id =>
      have hor := h.objs id _ hr
      rcases hrow j o ho with ⟨ty, ks, rows, rfl, _⟩ | ⟨bs, rfl, _⟩
      · obtain ⟨xs, h1, h2, h3⟩ := hor
        simp only [mapρ, hq]
        exact ⟨xs, h1, h2, h3.mono fun u c hr => hr.mono (fun b _ => hU b) fun _ _ _ h => h⟩
      · obtain ⟨b, cs, ety, h1, h2, h3⟩ := hor
        simp only [mapρ, hq]
        refine ⟨b, cs, ety, h1, h2, h3.1, fun k u s hu hs => ?_⟩
        have hk := h3.2 k u s hu hs
        refine ⟨hk.1, ?_⟩
        simp only [List.getElem?_map, Option.map_eq_some_iff] at hs
        obtain ⟨c, hc', rfl⟩ := hs
        exact C.toS_rel (C.toS_inv hk.2) (fun b _ => hU b)
  · obtain ⟨i', e1, e2, e3⟩ := hmap i oi b hi hbi
    obtain ⟨j', f1, f2, f3⟩ := hmap j oj b hj hbj
    have := h.sep i' j' _ _ b e2 f2 e3 f3
    subst this
    exact nodup_inj hnd e1 f1
  · obtain ⟨i', e1, e2, e3⟩ := hmap i o b hi hb
    have := h.fresh i' _ b e2 e3
    unfold Cx.Mo; rw [hw0, hM, hhv]; exact this
  · obtain ⟨f1, f2, f3⟩ := hF j v hv
    obtain ⟨g1, g2, g3⟩ := h.fix j v f1
    exact ⟨g1, f3, by simp only [mapρ, f2]; exact g3⟩

theorem tup_rel {U U' : Nat → Prop} {ob' : List (Nat × Ob)} {m : List (Nat × Option Nat)} (hU : ∀ b, U b → U' b) : ∀ {Vs : List V} {ps : List (Bool × List Rc)} {d : Nat} {vs : List Value}, tupP ob Vs ps →
    (∀ j q, look (tupM d Vs ps) j = some q → look m j = some q ∧ (look ob' j).isSome) → All2 (VRel w U ob ρ) vs Vs → All2 (PRel w U' ob' (mapρ m ρ)) vs (tupS d ps)
  | [], [], d, vs, _, _, h => by rw [All2.nil_right h]; exact All2.nil
  | .one s :: Vs, (false, cs) :: ps, d, vs, hp, hm, h => by
    obtain ⟨v, vs', rfl, h1, h2⟩ := h.cons_right
    have h3 := finS_rel (d := d) (ob' := ob') (m := m) hU hp.1 (fun j q hq => hm j q (by simp only [tupM, look_append]; rw [hq]; rfl)) (All2.nil.cons (x := v) h1)
    refine All2.cons ?_ (tup_rel hU hp.2 (fun j q hq => hm j q ?_) h2)
    · obtain ⟨s', hs'⟩ : ∃ s', scsOf d cs = [s'] := by
        have := h3.1
        match hq : scsOf d cs, this with
        | [s'], _ => exact ⟨s', rfl⟩
      rw [hs'] at h3 ⊢
      exact h3.head
    · simp only [tupM, look_append]
      rw [finM_none hp.1 (by
        cases hz : look (obsOf d cs) j with
        | none => rfl
        | some o =>
          exfalso
          have hne : look (tupM (nxt d cs) Vs ps) j ≠ none := by rw [hq]; simp
          refine hne (tupM_none hp.2 ?_)
          cases hz2 : look (tupO (nxt d cs) ps) j with
          | none => rfl
          | some o2 => have e1 := tupO_ge (nxt d cs) ps j (by simp [hz2]); have e2 := obsOf_lt d cs j (by simp [hz]); omega)]
      simpa using hq
  | .agg ss :: Vs, (true, cs) :: ps, d, vs, hp, hm, h => by
    obtain ⟨v, vs', rfl, h1, h2⟩ := h.cons_right
    obtain ⟨us, rfl, h1⟩ := h1
    have h3 := finS_rel (d := d) (ob' := ob') (m := m) hU hp.1 (fun j q hq => hm j q (by simp only [tupM, look_append]; rw [hq]; rfl)) h1
    refine All2.cons (PRel.agg_iff.2 ⟨us, rfl, h3⟩) (tup_rel hU hp.2 (fun j q hq => hm j q ?_) h2)
    simp only [tupM, look_append]
    rw [finM_none hp.1 (by
      cases hz : look (obsOf d cs) j with
      | none => rfl
      | some o =>
        exfalso
        have hne : look (tupM (nxt d cs) Vs ps) j ≠ none := by rw [hq]; simp
        refine hne (tupM_none hp.2 ?_)
        cases hz2 : look (tupO (nxt d cs) ps) j with
        | none => rfl
        | some o2 => have e1 := tupO_ge (nxt d cs) ps j (by simp [hz2]); have e2 := obsOf_lt d cs j (by simp [hz]); omega)]
    simpa using hq
  | .one _ :: _, (true, _) :: _, _, _, hp, _, _ => hp.elim
  | .agg _ :: _, (false, _) :: _, _, _, hp, _, _ => hp.elim
  | .tup _ :: _, _, _, _, hp, _, _ => by simp [tupP] at hp
  | [], _ :: _, _, _, hp, _, _ => hp.elim
  | .one _ :: _, [], _, _, hp, _, _ => hp.elim
  | .agg _ :: _, [], _, _, hp, _, _ => hp.elim
where
  obsOf_lt : ∀ (d : Nat) (cs : List Rc) (j : Nat), (look (obsOf d cs) j).isSome → j < nxt d cs
  | d, [], j, h => by simp [obsOf, look] at h
  | d, .own ty ks rows :: r, j, h => by
    simp only [obsOf, look] at h
    simp only [nxt]
    have hle := nxt_le (d + 1000) r
    split at h
    · omega
    · exact obsOf_lt (d + 1000) r j h
  | d, .int _ _ :: r, j, h => by simp only [obsOf] at h; exact obsOf_lt d r j h
  | d, .bool _ :: r, j, h => by simp only [obsOf] at h; exact obsOf_lt d r j h
  | d, .fz _ _ :: r, j, h => by simp only [obsOf] at h; exact obsOf_lt d r j h
  | d, .bx bs :: r, j, h => by
    simp only [obsOf, look] at h
    simp only [nxt]
    have hle := nxt_le (d + 1000) r
    split at h
    · omega
    · exact obsOf_lt (d + 1000) r j h
end
end Go.Vq
