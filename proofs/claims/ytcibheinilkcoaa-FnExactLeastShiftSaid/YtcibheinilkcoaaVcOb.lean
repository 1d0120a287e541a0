/- Part Ob of the small logic: one state says more than another. No conditions. -/
import Derived.Test.YtcibheinilkcoaaVcOh
namespace Go.Vq
open Go.RowKit

/-! ### one state says more than another -/
def capsEq (a b : List (Bool × List C)) : Prop := a = b
/-- a cell that is data -/
def unS : Sc → Option C
  | .int k n => some (.int k n)
  | .bool b => some (.bool b)
  | .ro ks rows => some (.sq ks rows)
  | .rp cells => some (.ptr cells)
  | .fn f caps => (unsing caps).map (C.fn f)
  | _ => none
def unSs : List Sc → Option (List C)
  | [] => some []
  | s :: r => match unS s, unSs r with
    | some c, some cs => some (c :: cs)
    | _, _ => none
theorem unS_rd {w : World} {U : Nat → Prop} {ob : List (Nat × Ob)} {ρ : Nat → Value} {v : Value} {s : Sc} {c : C} (hs : SRel w U ob ρ v s) (h : unS s = some c) : Rd w U v c := by
  cases s with
  | int k n => simp [unS] at h; subst h; cases hs; exact .int _ _
  | bool b => simp [unS] at h; subst h; cases hs; exact .bool _
  | ro ks rows => simp [unS] at h; subst h; exact hs
  | rp cells => simp [unS] at h; subst h; exact rp_rd hs
  | fn f caps =>
    simp only [unS, Option.map_eq_some_iff] at h
    obtain ⟨cs, e, rfl⟩ := h
    rw [unsing_eq e] at hs
    exact fn_rd hs
  | _ => simp [unS] at h
theorem unSs_get : ∀ {ss : List Sc} {cs : List C}, unSs ss = some cs → ∀ (j : Nat) c, cs[j]? = some c → ∃ s, ss[j]? = some s ∧ unS s = some c
  | [], cs, h, j, c, hc => by simp [unSs] at h; subst h; simp at hc
  | s :: r, cs, h, j, c, hc => by
    simp only [unSs] at h
    split at h
    · rename_i c0 cs0 e1 e2
      cases h
      cases j with
      | zero => simp at hc; subst hc; exact ⟨s, rfl, e1⟩
      | succ j => simpa using unSs_get e2 j c (by simpa using hc)
    · cases h
def scLe (so to : List (Nat × Ob)) : Sc → Sc → Prop
  | _, .any => True
  | .int k n, .int k' n' => k = k' ∧ n = n'
  | .bool b, .bool b' => b = b'
  | .ro ks rows, .ro ks' rows' => ks = ks' ∧ rows = rows'
  | .nil, .ro _ rows' => rows' = []
  | .nil, .nil => True
  | .nil, .root j => look so j = none ∧ (look to j).isSome = true
  | .root i, .root j => i = j ∧ (look so i).isSome = true ∧ (look to i).isSome = true
  | .root i, .ro ks' rows' => look to i = none ∧ match look so i with
    | some (.row _ ks rows) => ks = ks' ∧ rows = rows'
    | _ => False
  | .vw i ks rows, .ro ks' rows' => look to i = none ∧ ks = ks' ∧ rows = rows'
  | .bx i o, .bx i' o' => i = i' ∧ o = o' ∧ (look so i).isSome = true ∧ (look to i).isSome = true
  | .bx i o, .rp cs' => look to i = none ∧ match look so i with
    | some (.box ss) => unSs (ss.drop o) = some cs'
    | _ => False
  | .fn f caps, .fn f' caps' => f = f' ∧ caps = caps'
  | .rp cs, .rp cs' => cs = cs'
  | .xr ks rows, .xr ks' rows' => ks = ks' ∧ rows = rows'
  | _, _ => False
def scsLe (so to : List (Nat × Ob)) : List Sc → List Sc → Prop
  | [], [] => True
  | s :: ss, t :: ts => scLe so to s t ∧ scsLe so to ss ts
  | _, _ => False
def psLe (so to : List (Nat × Ob)) : List (Bool × List Sc) → List (Bool × List Sc) → Prop
  | [], [] => True
  | (b, ss) :: r, (b', ts) :: r' => b = b' ∧ scsLe so to ss ts ∧ psLe so to r r'
  | _, _ => False
def vLe (so to : List (Nat × Ob)) : V → V → Prop
  | _, .one .any => True
  | .one s, .one t => scLe so to s t
  | .agg ss, .agg ts => scsLe so to ss ts
  | .tup ps, .tup qs => psLe so to ps qs
  | _, _ => False
def obLe (so to : List (Nat × Ob)) (j : Nat) : Ob → Prop
  | .row ty' ks' rows' => match look so j with
    | none => rows' = []
    | some (.row ty ks rows) => ty = ty' ∧ ks = ks' ∧ rows = rows'
    | _ => False
  | .box ss' => match look so j with
    | some (.box ss) => scsLe so to ss ss'
    | _ => False
def slsLe (σ : St) (to : List (Nat × Ob)) : List (Nat × V) → Prop
  | [] => True
  | (t, V') :: r => (match look σ.sl t with
    | some V => vLe σ.ob to V V'
    | none => False) ∧ slsLe σ to r
def obsLe (so to : List (Nat × Ob)) : List (Nat × Ob) → Prop
  | [] => True
  | (j, o) :: r => obLe so to j o ∧ obsLe so to r
/-- the objects that came in stay -/
def fixB : List (Nat × Ob) → List (Nat × Ob) → Prop
  | [], _ => True
  | (j, _) :: r, to => (500000 ≤ j → (look to j).isSome = true) ∧ fixB r to
def St.le0 (σ τ : St) : Prop := slsLe σ τ.ob τ.sl ∧ obsLe σ.ob τ.ob τ.ob ∧ fixB σ.ob τ.ob
theorem fixB_get {to : List (Nat × Ob)} : ∀ {so : List (Nat × Ob)}, fixB so to → ∀ j, 500000 ≤ j → (look so j).isSome → (look to j).isSome
  | [], _, j, _, h => by simp [look] at h
  | (k, o) :: r, hb, j, hj, h => by
    simp only [look_cons] at h
    split at h
    · rename_i hk; subst hk
      exact hb.1 hj
    · exact fixB_get hb.2 j hj h

section
variable {P : Program} {x : Cx} {σ τ : St} {ρ : Nat → Value} {a : Act} {w : World}

theorem slsLe.get {to : List (Nat × Ob)} : ∀ {l : List (Nat × V)}, slsLe σ to l → ∀ t V', look l t = some V' → ∃ V, look σ.sl t = some V ∧ vLe σ.ob to V V'
  | (k, V0) :: r, h, t, V', hl => by
    simp only [look_cons] at hl
    split at hl
    · rename_i hk; subst hk; cases hl
      obtain ⟨h1, _⟩ := h
      split at h1
      · rename_i V hV; exact ⟨V, hV, h1⟩
      · exact h1.elim
    · exact slsLe.get h.2 t V' hl
  | [], _, t, V', hl => by simp [look] at hl
theorem obsLe.get {so to : List (Nat × Ob)} : ∀ {l : List (Nat × Ob)}, obsLe so to l → ∀ t o, look l t = some o → obLe so to t o
  | (k, V0) :: r, h, t, V', hl => by
    simp only [look_cons] at hl
    split at hl
    · rename_i hk; subst hk; cases hl; exact h.1
    · exact obsLe.get h.2 t V' hl
  | [], _, t, V', hl => by simp [look] at hl

/-- where the objects of the weaker state lie -/
def newρ (σ : St) (ρ : Nat → Value) : Nat → Value := fun j => match look σ.ob j with
  | some _ => ρ j
  | none => .slice none 0 0

theorem Rel.le0 (h : Rel x σ ρ a w) (hle : σ.le0 τ) : ∃ ρ', Rel x τ ρ' a w := by
  have hρs : ∀ j, (look σ.ob j).isSome → newρ σ ρ j = ρ j := fun j hj => by
    obtain ⟨o, ho⟩ := Option.isSome_iff_exists.1 hj
    simp [newρ, ho]
  have hρn : ∀ j, look σ.ob j = none → newρ σ ρ j = .slice none 0 0 := fun j hj => by simp [newρ, hj]
  have hblk : ∀ j b, blk (newρ σ ρ j) = some b → (look σ.ob j).isSome ∧ blk (ρ j) = some b := fun j b hb => by
    cases hq : look σ.ob j with
    | none => rw [hρn j hq] at hb; cases hb
    | some o => rw [hρs j (by simp [hq])] at hb; exact ⟨rfl, hb⟩
  have hown : ∀ b, Own τ.ob (newρ σ ρ) b → Own σ.ob ρ b := by
    rintro b ⟨j, o, hj, hb⟩
    obtain ⟨h1, h2⟩ := hblk j b hb
    obtain ⟨o', ho'⟩ := Option.isSome_iff_exists.1 h1
    exact ⟨j, o', ho', h2⟩
  have hU : ∀ b, x.U σ.ob ρ b → x.U τ.ob (newρ σ ρ) b := fun b hb => ⟨hb.1, fun ho => hb.2 (hown b ho)⟩
  have hUf : ∀ i b, (look σ.ob i).isSome → look τ.ob i = none → blk (ρ i) = some b → x.U τ.ob (newρ σ ρ) b := by
    intro i b hi hi' hb
    obtain ⟨o, ho⟩ := Option.isSome_iff_exists.1 hi
    refine ⟨(h.fresh i o b ho hb).elim (fun h => .inr (.inr h)) fun h => .inr (.inl h.1), ?_⟩
    rintro ⟨j, o', hj, hbj⟩
    obtain ⟨h1, h2⟩ := hblk j b hbj
    obtain ⟨oj, hoj⟩ := Option.isSome_iff_exists.1 h1
    have := h.sep i j o oj b ho hoj hb h2
    subst this; rw [hi'] at hj; cases hj
  have hfr' : ∀ i o b, look τ.ob i = some o → blk (newρ σ ρ i) = some b → x.w0.heap.size ≤ b ∨ x.Mo b := fun i o b _ hb => by
    obtain ⟨h1, h2⟩ := hblk i b hb
    obtain ⟨o', ho'⟩ := Option.isSome_iff_exists.1 h1
    exact h.fresh i o' b ho' h2
  have sc : ∀ {v : Value} {s t : Sc}, SRel w (x.U σ.ob ρ) σ.ob ρ v s → scLe σ.ob τ.ob s t → SRel w (x.U τ.ob (newρ σ ρ)) τ.ob (newρ σ ρ) v t := by
    intro v s t hs hl
    unfold scLe at hl
    split at hl
    · trivial
    · obtain ⟨rfl, rfl⟩ := hl; exact hs
    · subst hl; exact hs
    · obtain ⟨rfl, rfl⟩ := hl; exact hs.mono (fun b _ => hU b) fun _ _ _ h => h
    · subst hl; rw [show v = .slice none 0 0 from hs]; exact Rd.nil _
    · exact hs
    · rename_i j
      exact ⟨by rw [hρn j hl.1]; exact hs, hl.2⟩
    · obtain ⟨rfl, h1, h2⟩ := hl
      exact ⟨by rw [hρs _ h1]; exact hs.1, h2⟩
    · rename_i i ks' rows'
      obtain ⟨hn, hl⟩ := hl
      split at hl
      · rename_i ty ks rows hob
        obtain ⟨rfl, rfl⟩ := hl
        obtain ⟨xs, hw, hkk, hx⟩ := h.objs i _ hob
        show Rd w _ v _
        rw [hs.1]
        rcases hw.2 with ⟨hz, hn'⟩ | ⟨g, cap, cur, hρ, _, hg, hn', hcm, hcs, htake⟩
        · rw [hz, List.eq_nil_of_length_eq_zero hn']; exact .nil _
        · rw [hρ]
          exact .sq ⟨g, 0, none⟩ _ cap _ _ xs rfl hn' hkk (fun _ => hUf i g (by simp [hob]) hn (by rw [hρ]; rfl)) hx.1 (fun j u hu => hw.cells (by rw [hρ]; rfl) j u hu) (fun j u c hu hc => (hx.2 j u c hu hc).mono (fun b _ => hU b) fun _ _ _ h => h)
      · exact hl.elim
    · rename_i i ks rows ks' rows'
      obtain ⟨hn, rfl, rfl⟩ := hl
      exact hs.1.mono (fun b _ hb => hb.elim (hU b) (fun hb => hUf i b hs.2.isSome hn hb)) fun _ _ _ h => h
    · obtain ⟨rfl, rfl, h1, h2⟩ := hl
      obtain ⟨b, e1, e2, e3⟩ := hs
      exact ⟨b, by rw [hρs _ h1]; exact e1, e2, h2⟩
    · rename_i i o cs'
      obtain ⟨hn, hl⟩ := hl
      split at hl
      · rename_i ss hob
        obtain ⟨b, e1, e2, e3⟩ := hs
        obtain ⟨b', cs, ety, f1, f2, f3⟩ := h.objs i _ hob
        rw [e1] at f1
        cases f1
        refine ⟨⟨b, o, none⟩, e2, fun _ => hUf i b (by simp [hob]) hn (by rw [e1]; rfl), fun j c hj => ?_⟩
        obtain ⟨s, hs1, hs2⟩ := unSs_get hl j c hj
        rw [List.getElem?_drop] at hs1
        obtain ⟨u, hu1, _, hu2⟩ := f3.get hs1
        exact ⟨u, by rw [add_off]; simp [World.cell?, f2, hu1], (unS_rd hu2 hs2).mono (fun b _ => hU b) fun _ _ _ h => h⟩
      · exact hl.elim
    · obtain ⟨rfl, rfl⟩ := hl
      obtain ⟨vs, e1, e2⟩ := hs
      exact ⟨vs, e1, e2.mono fun _ _ q => q.mono (fun b _ => hU b) fun _ _ _ h => h⟩
    · subst hl
      obtain ⟨a, e1, e2, e3⟩ := hs
      exact ⟨a, e1, fun hne => hU _ (e2 hne), fun j c hj => by
        obtain ⟨u, f1, f2⟩ := e3 j c hj
        exact ⟨u, f1, f2.mono (fun b _ => hU b) fun _ _ _ h => h⟩⟩
    · obtain ⟨rfl, rfl⟩ := hl
      exact hs.mono (fun b _ hb => x.xo hfr' hb) fun _ _ _ h => h
    · exact hl.elim
  have scs : ∀ {ss ts : List Sc} {vs : List Value}, All2 (fun u s => SRel w (x.U σ.ob ρ) σ.ob ρ u s) vs ss → scsLe σ.ob τ.ob ss ts → All2 (fun u s => SRel w (x.U τ.ob (newρ σ ρ)) τ.ob (newρ σ ρ) u s) vs ts := by
    intro ss
    induction ss with
    | nil =>
      intro ts vs hv hl
      cases ts with
      | nil => rw [hv.nil_right]; exact All2.nil
      | cons t ts => exact hl.elim
    | cons s ss ih =>
      intro ts vs hv hl
      cases ts with
      | nil => exact hl.elim
      | cons t ts =>
        obtain ⟨v, vs', rfl, h1, h2⟩ := hv.cons_right
        exact All2.cons (sc h1 hl.1) (ih h2 hl.2)
  have pss : ∀ {ps qs : List (Bool × List Sc)} {vs : List Value}, All2 (PRel w (x.U σ.ob ρ) σ.ob ρ) vs ps → psLe σ.ob τ.ob ps qs → All2 (PRel w (x.U τ.ob (newρ σ ρ)) τ.ob (newρ σ ρ)) vs qs := by
    intro ps
    induction ps with
    | nil =>
      intro qs vs hv hl
      cases qs with
      | nil => rw [hv.nil_right]; exact All2.nil
      | cons _ _ => exact hl.elim
    | cons p ps ih =>
      intro qs vs hv hl
      cases qs with
      | nil => obtain ⟨b, ss⟩ := p; exact hl.elim
      | cons q qs =>
        obtain ⟨v, vs', rfl, h1, h2⟩ := hv.cons_right
        obtain ⟨b, ss⟩ := p
        obtain ⟨b', ts⟩ := q
        obtain ⟨rfl, hl1, hl2⟩ := hl
        refine All2.cons ?_ (ih h2 hl2)
        cases b with
        | true =>
          obtain ⟨us, e1, e2⟩ := h1
          exact ⟨us, e1, scs e2 hl1⟩
        | false =>
          obtain ⟨s, rfl, h1⟩ := h1.one_inv
          cases ts with
          | nil => exact hl1.elim
          | cons t ts =>
            cases ts with
            | nil => exact sc h1 hl1.1
            | cons _ _ => exact hl1.2.elim
  refine ⟨newρ σ ρ, fun t V' hV' => ?_, fun j o' hj => ?_, fun i j oi oj b hi hj hbi hbj => ?_, fun i o b hi hb => ?_, h.grow, h.defers, fun j v hv => ?_⟩
  rotate_left 4
  · obtain ⟨f1, f2, f3⟩ := h.fix j v hv
    exact ⟨f1, fixB_get hle.2.2 j f1 f2, by rw [hρs j f2]; exact f3⟩
  · obtain ⟨V, hV, hl⟩ := hle.1.get t V' hV'
    have hv := h.slots t V hV
    unfold vLe at hl
    split at hl
    · trivial
    · exact sc hv hl
    · obtain ⟨vs, e1, e2⟩ := hv
      exact ⟨vs, e1, scs e2 hl⟩
    · obtain ⟨vs, e1, e2⟩ := hv
      exact ⟨vs, e1, pss e2 hl⟩
    · exact hl.elim
  · have hl := hle.2.1.get j o' hj
    cases o' with
    | row ty' ks' rows' =>
      simp only [obLe] at hl
      split at hl
      · rename_i hn
        subst hl
        rw [hρn j hn]
        exact ⟨[], World.ownsRow_nil w 0 _ _, (fun r hr => absurd hr (by simp)), All2.nil⟩
      · rename_i ty ks rows hob
        obtain ⟨rfl, rfl, rfl⟩ := hl
        rw [hρs j (by simp [hob])]
        obtain ⟨xs, h1, h2, h3⟩ := h.objs j _ hob
        exact ⟨xs, h1, h2, h3.mono fun u c hr => hr.mono (fun b _ => hU b) fun _ _ _ h => h⟩
      · exact hl.elim
    | box ss' =>
      simp only [obLe] at hl
      split at hl
      · rename_i ss hob
        rw [hρs j (by simp [hob])]
        obtain ⟨b, cs, ety, e1, e2, e3⟩ := h.objs j _ hob
        have e4 := scs (e3.mono fun _ _ h => h.2) hl
        exact ⟨b, cs, ety, e1, e2, e4.1, fun i u s hu hs => ⟨by
          obtain ⟨s0, hs0⟩ : ∃ s0, ss[i]? = some s0 := ⟨_, List.getElem?_eq_getElem (by rw [← e3.1]; exact (List.getElem?_eq_some_iff.1 hu).1)⟩
          exact (e3.2 i u s0 hu hs0).1, e4.2 i u s hu hs⟩⟩
      · exact hl.elim
  · obtain ⟨h1, h2⟩ := hblk i b hbi
    obtain ⟨h3, h4⟩ := hblk j b hbj
    obtain ⟨o1, ho1⟩ := Option.isSome_iff_exists.1 h1
    obtain ⟨o2, ho2⟩ := Option.isSome_iff_exists.1 h3
    exact h.sep i j o1 o2 b ho1 ho2 h2 h4
  · obtain ⟨h1, h2⟩ := hblk i b hb
    obtain ⟨o1, ho1⟩ := Option.isSome_iff_exists.1 h1
    exact h.fresh i o1 b ho1 h2
end
end Go.Vq
