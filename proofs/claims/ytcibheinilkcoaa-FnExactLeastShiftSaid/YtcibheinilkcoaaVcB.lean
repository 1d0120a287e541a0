/- Part B of the small logic: how the relations persist when the world grows, when one block changes, when objects come and go. No conditions. -/
import Derived.Test.YtcibheinilkcoaaVcA
namespace Go.Vq
open Go.RowKit

theorem look_cons {β : Type} (k : Nat) (x : β) (r : List (Nat × β)) (t : Nat) : look ((k, x) :: r) t = if k = t then some x else look r t := rfl
theorem look_drp {β : Type} (l : List (Nat × β)) (k t : Nat) : look (drp l k) t = if k = t then none else look l t := by
  induction l with
  | nil => simp [drp, look]
  | cons p r ih =>
    obtain ⟨i, x⟩ := p
    simp only [drp, look]
    by_cases h : i = k
    · simp only [h, if_true, ih]; split <;> rfl
    · simp only [h, if_false, look, ih]
      by_cases h2 : i = t
      · simp only [h2, if_true]; rw [if_neg (by omega)]
      · simp [h2]

/-- the object that a part of a value hangs on -/
def Sc.uses (s : Sc) (j : Nat) : Prop := match s with
  | .vw i _ _ | .root i | .bx i _ | .vp i _ | .ep i _ _ | .fv i _ => i = j
  | _ => False

theorem CapRel.mono {w w' : World} {S S' : Nat → Prop} {v : Value} {p : Bool × List C} (h : CapRel w S v p) (hs : ∀ b, b < w.heap.size → S b → S' b) (hc : ∀ a u, S a.block → w.cell? a = some u → w'.cell? a = some u) : CapRel w' S' v p := by
  obtain ⟨t, cs⟩ := p
  cases t with
  | true =>
    obtain ⟨vs, rfl, h⟩ := h
    exact ⟨vs, rfl, h.mono fun _ _ h => h.mono hs hc⟩
  | false =>
    match cs, h with
    | [c], h => exact Rd.mono h hs hc

theorem isome {T : Nat → Prop} {ob ob' : List (Nat × Ob)} (hob : ∀ j, T j → ∀ o, look ob j = some o → ∃ o', look ob' j = some o' ∧ ∀ ty ks rows, o = .row ty ks rows → o' = .row ty ks rows) {j : Nat} (ht : T j) (h : (look ob j).isSome) : (look ob' j).isSome := by
  obtain ⟨o, ho⟩ := Option.isSome_iff_exists.1 h
  obtain ⟨o', h1, _⟩ := hob j ht o ho
  simp [h1]
theorem isrow {T : Nat → Prop} {ob ob' : List (Nat × Ob)} (hob : ∀ j, T j → ∀ o, look ob j = some o → ∃ o', look ob' j = some o' ∧ ∀ ty ks rows, o = .row ty ks rows → o' = .row ty ks rows) {j : Nat} (ht : T j) (h : IsRow ob j) : IsRow ob' j := by
  obtain ⟨ty, ks, rows, ho⟩ := h
  obtain ⟨o', h1, h2⟩ := hob j ht _ ho
  exact ⟨ty, ks, rows, by rw [h1, h2 _ _ _ rfl]⟩
theorem IsRow.isSome {ob : List (Nat × Ob)} {j : Nat} (h : IsRow ob j) : (look ob j).isSome := by obtain ⟨ty, ks, rows, ho⟩ := h; simp [ho]
section step
variable {w w' : World} {U U' : Nat → Prop} {ob ob' : List (Nat × Ob)} {ρ ρ' : Nat → Value} (T : Nat → Prop) (B : Option Nat)
  (hU : ∀ b, b < w.heap.size → U b → U' b) (hUB : ∀ b, U b → some b ≠ B)
  (hob : ∀ j, T j → ∀ o, look ob j = some o → ∃ o', look ob' j = some o' ∧ ∀ ty ks rows, o = .row ty ks rows → o' = .row ty ks rows) (hρ : ∀ j, T j → ρ' j = ρ j)
  (hoB : ∀ j, T j → IsRow ob j → ∀ b, blk (ρ j) = some b → some b ≠ B)
  (hc : ∀ a u, some a.block ≠ B → w.cell? a = some u → w'.cell? a = some u)
  (hX : ∀ b, b < w.heap.size → Xo U ob ρ b → Xo U' ob' ρ' b ∧ some b ≠ B)
include hU hUB hob hρ hoB hc hX

theorem SRel.step {v : Value} {s : Sc} (h : SRel w U ob ρ v s) (hu : ∀ j, s.uses j → T j) : SRel w' U' ob' ρ' v s := by
  have hcU : ∀ a u, U a.block → w.cell? a = some u → w'.cell? a = some u := fun a u hb => hc a u (hUB _ hb)
  cases s with
  | any => trivial
  | und => exact h
  | int k n => exact h
  | bool b => exact h
  | ro ks rows => exact Rd.mono h hU hcU
  | vw id ks rows =>
    have ht := hu id rfl
    obtain ⟨h1, h2⟩ := h
    refine ⟨h1.mono (fun b hb hx => ?_) (fun a u hx => ?_), isrow hob ht h2⟩
    · rw [hρ id ht]; exact hx.imp (hU b hb) (fun h => h)
    · exact hc a u (hx.elim (hUB _) (fun h => hoB id ht h2 _ h))
  | root id =>
    have ht := hu id rfl
    exact ⟨by rw [hρ id ht]; exact h.1, isome hob ht h.2⟩
  | nil => exact h
  | bx id off =>
    have ht := hu id rfl
    obtain ⟨b, h1, h2, h3⟩ := h
    exact ⟨b, by rw [hρ id ht]; exact h1, h2, isome hob ht h3⟩
  | rp cells =>
    obtain ⟨a, rfl, h1, h2⟩ := h
    refine ⟨a, rfl, fun hne => ?_, fun j c hj => ?_⟩
    · cases cells with
      | nil => exact absurd rfl hne
      | cons c cs =>
        obtain ⟨u, hu, _⟩ := h2 0 c rfl
        have := World.block_lt_of_cell? w _ hu
        rw [add_block] at this
        exact hU _ this (h1 hne)
    · obtain ⟨u, hu, hr⟩ := h2 j c hj
      refine ⟨u, hcU _ _ ?_ hu, hr.mono hU hcU⟩
      rw [add_block]
      exact h1 (by intro e; subst e; simp at hj)
  | vp id cells =>
    have ht := hu id rfl
    obtain ⟨a, rfl, h1, h3, h2⟩ := h
    have hcV : ∀ a u, (U a.block ∨ blk (ρ id) = some a.block) → w.cell? a = some u → w'.cell? a = some u := fun a u hx => hc a u (hx.elim (hUB _) (fun h => hoB id ht h3 _ h))
    refine ⟨a, rfl, fun hne => ?_, isrow hob ht h3, fun j c hj => ?_⟩
    · rw [hρ id ht]
      cases cells with
      | nil => exact absurd rfl hne
      | cons c cs =>
        obtain ⟨u, hu, _⟩ := h2 0 c rfl
        have := World.block_lt_of_cell? w _ hu
        rw [add_block] at this
        exact (h1 hne).imp (hU _ this) (fun h => h)
    · obtain ⟨u, hu, hr⟩ := h2 j c hj
      refine ⟨u, hcV _ _ ?_ hu, hr.mono (fun b hb hx => by rw [hρ id ht]; exact hx.imp (hU b hb) (fun h => h)) hcV⟩
      rw [add_block]
      exact h1 (by intro e; subst e; simp at hj)
  | ep id i off =>
    have ht := hu id rfl
    obtain ⟨g, n, cap, ty, ks, rows, h1, h2, h3⟩ := h
    obtain ⟨o', h4, h5⟩ := hob id ht _ h1
    exact ⟨g, n, cap, ty, ks, rows, by rw [h4, h5 _ _ _ rfl], by rw [hρ id ht]; exact h2, h3⟩
  | fv id n =>
    have ht := hu id rfl
    obtain ⟨g, m, cap, ty, ks, rows, h1, h2, h3⟩ := h
    obtain ⟨o', h4, h5⟩ := hob id ht _ h1
    exact ⟨g, m, cap, ty, ks, rows, by rw [h4, h5 _ _ _ rfl], by rw [hρ id ht]; exact h2, h3⟩
  | fn f caps =>
    obtain ⟨vs, rfl, h⟩ := h
    exact ⟨vs, rfl, h.mono fun _ _ h => h.mono hU hcU⟩
  | xr ks rows => exact Rd.mono h (fun b hb hx => (hX b hb hx).1) fun a u hx hu => hc a u (hX _ (World.block_lt_of_cell? w _ hu) hx).2 hu
  | xp cells =>
    obtain ⟨a, rfl, h1, h2⟩ := h
    have hcX : ∀ a u, Xo U ob ρ a.block → w.cell? a = some u → w'.cell? a = some u := fun a u hx hu => hc a u (hX _ (World.block_lt_of_cell? w _ hu) hx).2 hu
    refine ⟨a, rfl, fun hne => ?_, fun j c hj => ?_⟩
    · cases cells with
      | nil => exact absurd rfl hne
      | cons c cs =>
        obtain ⟨u, hu, _⟩ := h2 0 c rfl
        have := World.block_lt_of_cell? w _ hu
        rw [add_block] at this
        exact (hX _ this (h1 hne)).1
    · obtain ⟨u, hu, hr⟩ := h2 j c hj
      refine ⟨u, hcX _ _ ?_ hu, hr.mono (fun b hb hx => (hX b hb hx).1) hcX⟩
      rw [add_block]
      exact h1 (by intro e; subst e; simp at hj)
end step

def V.uses (V : V) (j : Nat) : Prop := match V with
  | .one s => s.uses j
  | .agg ss => ∃ s ∈ ss, s.uses j
  | .tup ps => ∃ p ∈ ps, ∃ s ∈ p.2, Sc.uses s j
section step
variable {w w' : World} {U U' : Nat → Prop} {ob ob' : List (Nat × Ob)} {ρ ρ' : Nat → Value} (T : Nat → Prop) (B : Option Nat)
  (hU : ∀ b, b < w.heap.size → U b → U' b) (hUB : ∀ b, U b → some b ≠ B)
  (hob : ∀ j, T j → ∀ o, look ob j = some o → ∃ o', look ob' j = some o' ∧ ∀ ty ks rows, o = .row ty ks rows → o' = .row ty ks rows) (hρ : ∀ j, T j → ρ' j = ρ j)
  (hoB : ∀ j, T j → IsRow ob j → ∀ b, blk (ρ j) = some b → some b ≠ B)
  (hc : ∀ a u, some a.block ≠ B → w.cell? a = some u → w'.cell? a = some u)
  (hX : ∀ b, b < w.heap.size → Xo U ob ρ b → Xo U' ob' ρ' b ∧ some b ≠ B)
include hU hUB hob hρ hoB hc hX
theorem PRel.step {v : Value} {p : Bool × List Sc} (h : PRel w U ob ρ v p) (hu : ∀ s ∈ p.2, ∀ j, Sc.uses s j → T j) : PRel w' U' ob' ρ' v p := by
  obtain ⟨t, ss⟩ := p
  cases t with
  | true =>
    obtain ⟨us, rfl, h'⟩ := PRel.agg_iff.1 h
    exact PRel.agg_iff.2 ⟨us, rfl, h'.mono' fun _ _ s hs h => SRel.step T B hU hUB hob hρ hoB hc hX h (hu s hs)⟩
  | false =>
    obtain ⟨s, rfl, h⟩ := h.one_inv
    exact SRel.step T B hU hUB hob hρ hoB hc hX h (hu s (by simp))
theorem VRel.step {v : Value} {s : V} (h : VRel w U ob ρ v s) (hu : ∀ j, s.uses j → T j) : VRel w' U' ob' ρ' v s := by
  cases s with
  | one s => exact SRel.step T B hU hUB hob hρ hoB hc hX h hu
  | agg ss =>
    obtain ⟨vs, rfl, h⟩ := h
    exact ⟨vs, rfl, h.mono' fun _ _ s hs h => SRel.step T B hU hUB hob hρ hoB hc hX h (fun j hj => hu j ⟨s, hs, hj⟩)⟩
  | tup ps =>
    obtain ⟨vs, rfl, h⟩ := h
    exact ⟨vs, rfl, h.mono' fun u _ p hp h => PRel.step T B hU hUB hob hρ hoB hc hX h (fun s hs j hj => hu j ⟨p, hp, s, hs, hj⟩)⟩

omit hob hρ hoB hX in
theorem ORel.step_row {v : Value} {ty : Nat} {ks : List Kd} {rows : List (List C)} (h : ORel w U ob ρ v (.row ty ks rows))
    (hB : ∀ b, blk v = some b → w'.heap[b]? = w.heap[b]?) : ORel w' U' ob' ρ' v (.row ty ks rows) := by
  obtain ⟨xs, h1, h2, h3⟩ := h
  refine ⟨xs, ⟨h1.1, ?_⟩, h2, h3.mono fun _ _ h => h.mono hU fun a u hb => hc a u (hUB _ hb)⟩
  rcases h1.2 with hn | ⟨g, cap, cur, rfl, hb, hg, rest⟩
  · exact .inl hn
  · exact .inr ⟨g, cap, cur, rfl, hb, by rw [hB g rfl]; exact hg, rest⟩
theorem ORel.step_box {v : Value} {ss : List Sc} (h : ORel w U ob ρ v (.box ss)) (hu : ∀ s ∈ ss, ∀ j, s.uses j → T j)
    (hB : ∀ b, blk v = some b → w'.heap[b]? = w.heap[b]?) : ORel w' U' ob' ρ' v (.box ss) := by
  obtain ⟨b, cs, ty, rfl, h1, h2⟩ := h
  exact ⟨b, cs, ty, rfl, by rw [hB b rfl]; exact h1, h2.mono' fun _ _ s hs h => ⟨h.1, SRel.step T B hU hUB hob hρ hoB hc hX h.2 (fun j hj => hu s hs j hj)⟩⟩
end step

/-- the objects that an object hangs on -/
def Ob.uses (o : Ob) (j : Nat) : Prop := match o with
  | .row .. => False
  | .box ss => ∃ s ∈ ss, Sc.uses s j

theorem SRel.used {w : World} {U : Nat → Prop} {ob : List (Nat × Ob)} {ρ : Nat → Value} {v : Value} {s : Sc} (h : SRel w U ob ρ v s) {j : Nat} (hj : s.uses j) : (look ob j).isSome := by
  cases s with
  | vw id ks rows => cases hj; exact h.2.isSome
  | root id => cases hj; exact h.2
  | bx id off => cases hj; obtain ⟨_, _, _, h⟩ := h; exact h
  | vp id cells => cases hj; obtain ⟨_, _, _, h, _⟩ := h; exact h.isSome
  | ep id i off => cases hj; obtain ⟨_, _, _, _, _, _, h, _⟩ := h; simp [h]
  | fv id n => cases hj; obtain ⟨_, _, _, _, _, _, h, _⟩ := h; simp [h]
  | _ => exact hj.elim
theorem PRel.used {w : World} {U : Nat → Prop} {ob : List (Nat × Ob)} {ρ : Nat → Value} {v : Value} {p : Bool × List Sc} (h : PRel w U ob ρ v p) {s : Sc} (hs : s ∈ p.2) {j : Nat} (hj : s.uses j) : (look ob j).isSome := by
  obtain ⟨t, ss⟩ := p
  cases t with
  | true =>
    obtain ⟨us, rfl, h'⟩ := PRel.agg_iff.1 h
    obtain ⟨i, hi⟩ := List.getElem?_of_mem hs
    obtain ⟨u, _, hr⟩ := h'.get hi
    exact hr.used hj
  | false =>
    obtain ⟨s', rfl, h⟩ := h.one_inv
    simp at hs; subst hs
    exact SRel.used h hj
theorem VRel.used {w : World} {U : Nat → Prop} {ob : List (Nat × Ob)} {ρ : Nat → Value} {v : Value} {s : V} (h : VRel w U ob ρ v s) {j : Nat} (hj : s.uses j) : (look ob j).isSome := by
  cases s with
  | one s => exact SRel.used h hj
  | agg ss =>
    obtain ⟨vs, rfl, h⟩ := h
    obtain ⟨s, hs, hj⟩ := hj
    obtain ⟨i, hi⟩ := List.getElem?_of_mem hs
    obtain ⟨u, _, hr⟩ := h.get hi
    exact hr.used hj
  | tup ps =>
    obtain ⟨vs, rfl, h⟩ := h
    obtain ⟨p, hp, s, hs, hj⟩ := hj
    obtain ⟨i, hi⟩ := List.getElem?_of_mem hp
    obtain ⟨u, _, hr⟩ := h.get hi
    exact PRel.used hr hs hj
theorem ORel.used {w : World} {U : Nat → Prop} {ob : List (Nat × Ob)} {ρ : Nat → Value} {v : Value} {o : Ob} (h : ORel w U ob ρ v o) {j : Nat} (hj : o.uses j) : (look ob j).isSome := by
  cases o with
  | row => exact hj.elim
  | box ss =>
    obtain ⟨b, cs, ty, rfl, h1, h2⟩ := h
    obtain ⟨s, hs, hj⟩ := hj
    obtain ⟨i, hi⟩ := List.getElem?_of_mem hs
    obtain ⟨u, _, hr⟩ := h2.get hi
    exact hr.2.used hj

theorem ORel.blk_lt {w : World} {U : Nat → Prop} {ob : List (Nat × Ob)} {ρ : Nat → Value} {v : Value} {o : Ob} (h : ORel w U ob ρ v o) {b : Nat} (hb : blk v = some b) : b < w.heap.size := by
  cases o with
  | row ty ks rows =>
    obtain ⟨xs, h1, h2, h3⟩ := h
    rcases h1.2 with ⟨rfl, _⟩ | ⟨g, cap, cur, rfl, _, hg, rest⟩
    · cases hb
    · cases hb; exact (Array.getElem?_eq_some_iff.1 hg).1
  | box ss =>
    obtain ⟨b', cs, ty, rfl, h1, h2⟩ := h
    cases hb; exact (Array.getElem?_eq_some_iff.1 h1).1

/-- old memory that nobody changes stays that: what the call owns is new, or may be changed -/
theorem Cx.xo (x : Cx) {ob ob' : List (Nat × Ob)} {ρ ρ' : Nat → Value} (hf : ∀ i o b, look ob' i = some o → blk (ρ' i) = some b → x.w0.heap.size ≤ b ∨ x.Mo b) {b : Nat} (hb : Xo (x.U ob ρ) ob ρ b) : Xo (x.U ob' ρ') ob' ρ' b := by
  have h0 : ¬ (x.S b ∨ x.M b ∨ x.w0.heap.size ≤ b) := fun h => hb.1 ⟨h, hb.2⟩
  exact ⟨fun h => h0 h.1, fun ⟨i, o, hi, hbi⟩ => h0 ((hf i o b hi hbi).elim (fun h => .inr (.inr h)) (fun h => .inr (.inl h.1)))⟩
/-- a step of the world that changes no old block: the whole state persists -/
theorem Rel.grown {x : Cx} {σ : St} {ρ : Nat → Value} {a : Act} {w w' : World} (h : Rel x σ ρ a w) (he : Ext w w' NoM) : Rel x σ ρ a w' := by
  have hc : ∀ a u, some a.block ≠ (none : Option Nat) → w.cell? a = some u → w'.cell? a = some u := fun a u _ hu => he.cell (fun f => f) hu
  have hUn : ∀ b, x.U σ.ob ρ b → some b ≠ (none : Option Nat) := fun b _ e => by cases e
  have hon : ∀ j, True → IsRow σ.ob j → ∀ b, blk (ρ j) = some b → some b ≠ (none : Option Nat) := fun _ _ _ _ _ e => by cases e
  refine ⟨fun t V hV => (h.slots t V hV).step (fun _ => True) none (fun _ _ h => h) hUn (fun _ _ o ho => ⟨o, ho, fun _ _ _ e => e⟩) (fun _ _ => rfl) hon hc (fun _ _ h => ⟨h, fun e => by cases e⟩) (fun _ _ => trivial), fun id o ho => ?_, h.sep, h.fresh, h.grow.trans he (fun _ f => f.elim), h.defers, h.fix⟩
  have hor := h.objs id o ho
  have hB : ∀ b, blk (ρ id) = some b → w'.heap[b]? = w.heap[b]? := fun b hb => he.block b (hor.blk_lt hb) (fun f => f)
  cases o with
  | row ty ks rows => exact ORel.step_row none (fun _ _ h => h) hUn hc hor hB
  | box ss => exact ORel.step_box (fun _ => True) none (fun _ _ h => h) hUn (fun _ _ o ho => ⟨o, ho, fun _ _ _ e => e⟩) (fun _ _ => rfl) hon hc (fun _ _ h => ⟨h, fun e => by cases e⟩) hor (fun _ _ _ _ => trivial) hB

def St.put (σ : St) (d : Option Tmp) (V : V) : St := match d with
  | some d => ⟨(d, V) :: σ.sl, σ.ob⟩
  | none => σ
def dstOk (n : Nat) (d : Option Tmp) : Bool := match d with
  | some d => decide (d < n)
  | none => true
theorem Rel.put {x : Cx} {σ : St} {ρ : Nat → Value} {a : Act} {w : World} (h : Rel x σ ρ a w) {d : Option Tmp} (hd : dstOk a.tmps.size d = true) {v : Value} {V : V} (hv : VRel w (x.U σ.ob ρ) σ.ob ρ v V) :
    Rel x (σ.put d V) ρ (a.put d v) w := by
  cases d with
  | none => exact h
  | some d =>
    have hd : d < a.tmps.size := by simpa [dstOk] using hd
    refine ⟨fun t V' hV => ?_, h.objs, h.sep, h.fresh, h.grow, h.defers, h.fix⟩
    simp only [St.put, look_cons, Act.put] at hV ⊢
    by_cases ht : d = t
    · subst ht
      simp only [if_true, Option.some.injEq] at hV; subst hV
      simpa [Array.getD, hd, Array.getElem_setIfInBounds] using hv
    · simp only [ht, if_false] at hV
      have := h.slots t V' hV
      simpa [Array.getD_eq_getD_getElem?, Array.getElem?_setIfInBounds, ht] using this
end Go.Vq
