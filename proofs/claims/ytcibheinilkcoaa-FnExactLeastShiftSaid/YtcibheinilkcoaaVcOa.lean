/- Part Oa of the small logic: calls that change what they are handed: slices and boxes of the caller's own. No conditions. -/
import Derived.Test.YtcibheinilkcoaaVcO
namespace Go.Vq
open Go.RowKit

def memN (k : Nat) : List Nat → Bool
  | [] => false
  | j :: r => if j = k then true else memN k r
theorem memN_iff (k : Nat) : ∀ l : List Nat, memN k l = true ↔ k ∈ l
  | [] => by simp [memN]
  | j :: r => by
    simp only [memN, List.mem_cons]
    split
    · rename_i h; subst h; simp
    · rename_i h; rw [memN_iff k r]; constructor
      · exact .inr
      · rintro (h' | h')
        · exact absurd h'.symm h
        · exact h'

/-- a part of an argument: data, a slice of the caller's own, a pointer to a box of the caller's own -/
inductive Ma where
  | val (c : C)
  | ref (k : Nat)
  | ptr (k : Nat)
  | nil
/-- what is handed over -/
inductive Mo where
  | row (ty : Nat) (ks : List Kd) (rows : List (List C))
  | box (cs : List C)
def Mo.ob : Mo → Ob
  | .row ty ks rows => .row ty ks rows
  | .box cs => .box (cs.map C.toS)
def Mo.like : Mo → Mo → Prop
  | .row ty ks _, .row ty' ks' _ => ty = ty' ∧ ks = ks'
  | .box _, .box _ => True
  | _, _ => False
def Ma.sc (g : Nat → Nat) : Ma → Sc
  | .val c => c.toS
  | .ref k => .root (g k)
  | .ptr k => .bx (g k) 0
  | .nil => .nil
def Ma.inB (n : Nat) : Ma → Bool
  | .val _ => true
  | .ref k => Nat.blt k n
  | .ptr k => Nat.blt k n
  | .nil => true
def maV (g : Nat → Nat) : Bool × List Ma → V
  | (true, ms) => .agg (ms.map (Ma.sc g))
  | (false, [m]) => .one (m.sc g)
  | _ => .one .any
def numb : Nat → List Mo → List (Nat × Ob)
  | _, [] => []
  | n, o :: r => (n, o.ob) :: numb (n + 1) r
theorem numb_get : ∀ (n : Nat) (l : List Mo) (j : Nat), look (numb n l) j = if n ≤ j then (l[j - n]?).map Mo.ob else none
  | n, [], j => by simp [numb, look]
  | n, o :: r, j => by
    simp only [numb, look_cons]
    by_cases h : n = j
    · subst h; simp
    · rw [if_neg h, numb_get (n + 1) r j]
      by_cases h2 : n ≤ j
      · rw [if_pos h2, if_pos (by omega), show j - n = (j - (n + 1)) + 1 by omega]; simp
      · rw [if_neg h2, if_neg (by omega)]
theorem numb_some {n : Nat} {l : List Mo} {j : Nat} {o : Ob} (h : look (numb n l) j = some o) : n ≤ j ∧ ∃ mo, l[j - n]? = some mo ∧ o = mo.ob := by
  rw [numb_get] at h
  split at h
  · rename_i hn
    simp only [Option.map_eq_some_iff] at h
    obtain ⟨mo, h1, h2⟩ := h
    exact ⟨hn, mo, h1, h2.symm⟩
  · cases h
theorem numb_at {n : Nat} {l : List Mo} {k : Nat} {mo : Mo} (h : l[k]? = some mo) : look (numb n l) (k + n) = some mo.ob := by
  rw [numb_get, if_pos (by omega), Nat.add_sub_cancel, h]; rfl

def cxM (S : Nat → Prop) (w : World) (ob : List (Nat × Ob)) (ρ : Nat → Value) : Cx := ⟨S, w, Own ob ρ, fun j => if (look ob j).isSome then some (ρ j) else none, false⟩
/-- a function that changes what it is handed: what it leaves, what it hands back -/
def FnM (P : Program) (f : Nat) (args : List (Bool × List Ma)) (obs obs' : List Mo) (r : Rs) : Prop :=
  ∀ (S : Nat → Prop) (vals : List Value) (w : World) (ρ : Nat → Value), Rel (cxM S w (numb 500000 obs) ρ) ⟨[], numb 500000 obs⟩ ρ ⟨#[], []⟩ w →
    All2 (VRel w (Cx.U (cxM S w (numb 500000 obs) ρ) (numb 500000 obs) ρ) (numb 500000 obs) ρ) vals (args.map (maV (· + 500000))) →
    Calls P f vals.toArray w fun e w' => ∃ v ρ', e = .returned v ∧ Rel (cxM S w (numb 500000 obs) ρ) ⟨[], r.O 0 ++ numb 500000 obs'⟩ ρ' ⟨#[], []⟩ w' ∧
      VRel w' (Cx.U (cxM S w (numb 500000 obs) ρ) (r.O 0 ++ numb 500000 obs') ρ') (r.O 0 ++ numb 500000 obs') ρ' v (r.V 0)

def zipO : List Nat → List Mo → List (Nat × Ob)
  | i :: is, o :: os => (i, o.ob) :: zipO is os
  | _, _ => []
theorem zipO_none : ∀ {ids : List Nat} {obs : List Mo} {j : Nat}, j ∉ ids → look (zipO ids obs) j = none
  | [], _, _, _ => rfl
  | _ :: _, [], _, _ => rfl
  | i :: is, o :: os, j, h => by
    simp only [List.mem_cons, not_or] at h
    simp only [zipO, look_cons, if_neg (Ne.symm h.1)]
    exact zipO_none h.2
theorem zipO_at : ∀ {ids : List Nat} {obs : List Mo} {k i : Nat} {o : Mo}, ids.Nodup → ids[k]? = some i → obs[k]? = some o → look (zipO ids obs) i = some o.ob
  | [], _, k, i, o, _, h, _ => by simp at h
  | _ :: _, [], k, i, o, _, _, h => by simp at h
  | i' :: is, o' :: os, k, i, o, hn, h1, h2 => by
    simp only [List.nodup_cons] at hn
    simp only [zipO, look_cons]
    cases k with
    | zero => simp at h1 h2; subst h1; subst h2; simp
    | succ k =>
      simp at h1 h2
      have hi : i ∈ is := List.mem_of_getElem? h1
      rw [if_neg (by intro e; subst e; exact hn.1 hi)]
      exact zipO_at hn.2 h1 h2

def Sc.killL (ids : List Nat) : Sc → Sc
  | .vw i ks rows => match memN i ids with
    | true => .any
    | false => .vw i ks rows
  | .vp i cs => match memN i ids with
    | true => .any
    | false => .vp i cs
  | s => s
def V.killL (ids : List Nat) : V → V
  | .one s => .one (s.killL ids)
  | .agg ss => .agg (ss.map (Sc.killL ids))
  | .tup ps => .tup (ps.map fun p => (p.1, p.2.map (Sc.killL ids)))
def Ob.killL (ids : List Nat) : Ob → Ob
  | .row ty ks rows => .row ty ks rows
  | .box ss => .box (ss.map (Sc.killL ids))

section kill
variable {w w' : World} {U U' : Nat → Prop} {ob ob' : List (Nat × Ob)} {ρ ρ' : Nat → Value} (ids : List Nat) (M : Nat → Prop)
  (hU : ∀ b, b < w.heap.size → U b → U' b) (hUM : ∀ b, U b → ¬ M b)
  (hob : ∀ j o, look ob j = some o → ∃ o', look ob' j = some o' ∧ ∀ ty ks rows, o = .row ty ks rows → ∃ rows', o' = .row ty ks rows' ∧ (j ∉ ids → rows' = rows))
  (hρ : ∀ j, (look ob j).isSome → ρ' j = ρ j)
  (hoM : ∀ j, j ∉ ids → (look ob j).isSome → ∀ b, blk (ρ j) = some b → ¬ M b)
  (hc : ∀ a u, ¬ M a.block → w.cell? a = some u → w'.cell? a = some u)
  (hX : ∀ b, b < w.heap.size → Xo U ob ρ b → Xo U' ob' ρ' b ∧ ¬ M b)
include hU hUM hob hρ hoM hc hX
theorem SRel.killL {v : Value} {s : Sc} (h : SRel w U ob ρ v s) : SRel w' U' ob' ρ' v (s.killL ids) := by
  have hcU : ∀ a u, U a.block → w.cell? a = some u → w'.cell? a = some u := fun a u hb => hc a u (hUM _ hb)
  have some' : ∀ j, (look ob j).isSome → (look ob' j).isSome := fun j hj => by
    obtain ⟨o, ho⟩ := Option.isSome_iff_exists.1 hj
    obtain ⟨o', h1, _⟩ := hob j o ho
    simp [h1]
  have row' : ∀ j, IsRow ob j → IsRow ob' j := fun j ⟨ty, ks, rows, ho⟩ => by
    obtain ⟨o', h1, h2⟩ := hob j _ ho
    obtain ⟨rows', h3, _⟩ := h2 ty ks rows rfl
    exact ⟨ty, ks, rows', by rw [h1, h3]⟩
  cases s with
  | any => trivial
  | und => exact h
  | int k n => exact h
  | bool b => exact h
  | nil => exact h
  | ro ks rows => exact Rd.mono h hU hcU
  | vw i ks rows =>
    simp only [Sc.killL]
    split
    · trivial
    · rename_i hi
      have hni : i ∉ ids := fun hm => by rw [(memN_iff i ids).2 hm] at hi; cases hi
      obtain ⟨h1, h2⟩ := h
      refine ⟨h1.mono (fun b hb hx => ?_) (fun a u hx => hc a u (hx.elim (hUM _) (fun h => hoM i hni h2.isSome _ h))), row' i h2⟩
      rw [hρ i h2.isSome]; exact hx.imp (hU b hb) (fun h => h)
  | root i => exact ⟨by rw [hρ i h.2]; exact h.1, some' i h.2⟩
  | bx i off =>
    obtain ⟨b, h1, h2, h3⟩ := h
    exact ⟨b, by rw [hρ i h3]; exact h1, h2, some' i h3⟩
  | rp cells =>
    obtain ⟨a, rfl, h1, h2⟩ := h
    refine ⟨a, rfl, fun hne => ?_, fun j c hj => ?_⟩
    · cases cells with
      | nil => exact absurd rfl hne
      | cons c cs =>
        obtain ⟨u, hu, _⟩ := h2 0 c rfl
        have := World.block_lt_of_cell? w _ hu
        rw [add_block] at this
        exact hU _ this (h1 hne)
    · obtain ⟨u, hu, hr⟩ := h2 j c hj
      refine ⟨u, hcU _ _ ?_ hu, hr.mono hU hcU⟩
      rw [add_block]
      exact h1 (by intro e; subst e; simp at hj)
  | vp i cells =>
    simp only [Sc.killL]
    split
    · trivial
    · rename_i hi
      have hni : i ∉ ids := fun hm => by rw [(memN_iff i ids).2 hm] at hi; cases hi
      obtain ⟨a, rfl, h1, h3, h2⟩ := h
      have hcV : ∀ a u, (U a.block ∨ blk (ρ i) = some a.block) → w.cell? a = some u → w'.cell? a = some u := fun a u hx => hc a u (hx.elim (hUM _) (fun h => hoM i hni h3.isSome _ h))
      refine ⟨a, rfl, fun hne => ?_, row' i h3, fun j c hj => ?_⟩
      · rw [hρ i h3.isSome]
        cases cells with
        | nil => exact absurd rfl hne
        | cons c cs =>
          obtain ⟨u, hu, _⟩ := h2 0 c rfl
          have := World.block_lt_of_cell? w _ hu
          rw [add_block] at this
          exact (h1 hne).imp (hU _ this) (fun h => h)
      · obtain ⟨u, hu, hr⟩ := h2 j c hj
        refine ⟨u, hcV _ _ ?_ hu, hr.mono (fun b hb hx => by rw [hρ i h3.isSome]; exact hx.imp (hU b hb) (fun h => h)) hcV⟩
        rw [add_block]
        exact h1 (by intro e; subst e; simp at hj)
  | ep i k off =>
    obtain ⟨g, n, cap, ty, ks, rows, h1, h2, h3⟩ := h
    obtain ⟨o', h4, h5⟩ := hob i _ h1
    obtain ⟨rows', h6, _⟩ := h5 ty ks rows rfl
    exact ⟨g, n, cap, ty, ks, rows', by rw [h4, h6], by rw [hρ i (by simp [h1])]; exact h2, h3⟩
  | fv i k =>
    obtain ⟨g, n, cap, ty, ks, rows, h1, h2, h3⟩ := h
    obtain ⟨o', h4, h5⟩ := hob i _ h1
    obtain ⟨rows', h6, _⟩ := h5 ty ks rows rfl
    exact ⟨g, n, cap, ty, ks, rows', by rw [h4, h6], by rw [hρ i (by simp [h1])]; exact h2, h3⟩
  | fn f caps =>
    obtain ⟨vs, rfl, h⟩ := h
    exact ⟨vs, rfl, h.mono fun _ _ h => h.mono hU hcU⟩
  | xr ks rows => exact Rd.mono h (fun b hb hx => (hX b hb hx).1) fun a u hx hu => hc a u (hX _ (World.block_lt_of_cell? w _ hu) hx).2 hu
  | xp cells =>
    obtain ⟨a, rfl, h1, h2⟩ := h
    have hcX : ∀ a u, Xo U ob ρ a.block → w.cell? a = some u → w'.cell? a = some u := fun a u hx hu => hc a u (hX _ (World.block_lt_of_cell? w _ hu) hx).2 hu
    refine ⟨a, rfl, fun hne => ?_, fun j c hj => ?_⟩
    · cases cells with
      | nil => exact absurd rfl hne
      | cons c cs =>
        obtain ⟨u, hu, _⟩ := h2 0 c rfl
        have := World.block_lt_of_cell? w _ hu
        rw [add_block] at this
        exact (hX _ this (h1 hne)).1
    · obtain ⟨u, hu, hr⟩ := h2 j c hj
      refine ⟨u, hcX _ _ ?_ hu, hr.mono (fun b hb hx => (hX b hb hx).1) hcX⟩
      rw [add_block]
      exact h1 (by intro e; subst e; simp at hj)
theorem VRel.killL {v : Value} {V : V} (h : VRel w U ob ρ v V) : VRel w' U' ob' ρ' v (V.killL ids) := by
  cases V with
  | one s => exact SRel.killL ids M hU hUM hob hρ hoM hc hX h
  | agg ss =>
    obtain ⟨vs, rfl, h⟩ := h
    exact ⟨vs, rfl, h.map_right _ fun _ _ _ _ h => SRel.killL ids M hU hUM hob hρ hoM hc hX h⟩
  | tup ps =>
    obtain ⟨vs, rfl, h⟩ := h
    refine ⟨vs, rfl, h.map_right _ fun u _ p _ hp => ?_⟩
    obtain ⟨t, ss⟩ := p
    cases t with
    | true =>
      obtain ⟨us, rfl, h'⟩ := PRel.agg_iff.1 hp
      exact PRel.agg_iff.2 ⟨us, rfl, h'.map_right _ fun _ _ _ _ h => SRel.killL ids M hU hUM hob hρ hoM hc hX h⟩
    | false =>
      obtain ⟨s, rfl, h'⟩ := hp.one_inv
      exact SRel.killL ids M hU hUM hob hρ hoM hc hX h'
theorem ORel.killL {v : Value} {o : Ob} (h : ORel w U ob ρ v o) (hB : ∀ b, blk v = some b → w'.heap[b]? = w.heap[b]?) : ORel w' U' ob' ρ' v (o.killL ids) := by
  have hcU : ∀ a u, U a.block → w.cell? a = some u → w'.cell? a = some u := fun a u hb => hc a u (hUM _ hb)
  cases o with
  | row ty ks rows =>
    obtain ⟨xs, h1, h2, h3⟩ := h
    refine ⟨xs, ⟨h1.1, ?_⟩, h2, h3.mono fun _ _ h => h.mono hU hcU⟩
    rcases h1.2 with hn | ⟨g, cap, cur, rfl, hb, hg, rest⟩
    · exact .inl hn
    · exact .inr ⟨g, cap, cur, rfl, hb, by rw [hB g rfl]; exact hg, rest⟩
  | box ss =>
    obtain ⟨b, cs, ty, rfl, h1, h2⟩ := h
    exact ⟨b, cs, ty, rfl, by rw [hB b rfl]; exact h1, h2.map_right _ fun u _ s _ hs => ⟨hs.1, SRel.killL ids M hU hUM hob hρ hoM hc hX hs.2⟩⟩
end kill

theorem ORel.mo {w : World} {U U' : Nat → Prop} {ob ob' : List (Nat × Ob)} {ρ ρ' : Nat → Value} {v : Value} {o : Mo} (h : ORel w U ob ρ v o.ob) (hU : ∀ b, U b → U' b) : ORel w U' ob' ρ' v o.ob := by
  cases o with
  | row ty ks rows =>
    obtain ⟨xs, h1, h2, h3⟩ := h
    exact ⟨xs, h1, h2, h3.mono fun _ _ h => h.mono (fun b _ => hU b) fun _ _ _ h => h⟩
  | box cs =>
    obtain ⟨b, us, ty, h0, h1, h2⟩ := h
    refine ⟨b, us, ty, h0, h1, h2.1, fun k u s hu hs => ?_⟩
    have hk := h2.2 k u s hu hs
    refine ⟨hk.1, ?_⟩
    simp only [List.getElem?_map, Option.map_eq_some_iff] at hs
    obtain ⟨c, _, rfl⟩ := hs
    exact C.toS_rel (C.toS_inv hk.2) (fun b _ => hU b)

theorem nodup_inj' : ∀ {l : List Nat}, l.Nodup → ∀ {i j x : Nat}, l[i]? = some x → l[j]? = some x → i = j
  | [], _, i, j, x, h, _ => by simp at h
  | y :: l, hn, i, j, x, h1, h2 => by
    simp only [List.nodup_cons] at hn
    cases i with
    | zero =>
      cases j with
      | zero => rfl
      | succ j => simp at h1 h2; subst h1; exact absurd (List.mem_of_getElem? h2) hn.1
    | succ i =>
      cases j with
      | zero => simp at h1 h2; subst h2; exact absurd (List.mem_of_getElem? h1) hn.1
      | succ j => simp at h1 h2; rw [nodup_inj' hn.2 h1 h2]
section sub
variable {w : World} {U : Nat → Prop} {ob0 ob1 : List (Nat × Ob)} {ρ : Nat → Value}
theorem scsOf_sub : ∀ (e : Nat) (cs : List Rc) (vs : List Value), (∀ j, (look (obsOf e cs) j).isSome → (look ob1 j).isSome) → All2 (SRel w U ob0 ρ) vs (scsOf e cs) → All2 (SRel w U ob1 ρ) vs (scsOf e cs)
  | e, [], vs, _, h => by rw [All2.nil_right h]; exact All2.nil
  | e, .int k n :: r, vs, hs, h => by
    obtain ⟨v, vs', rfl, h1, h2⟩ := h.cons_right
    exact All2.cons h1 (scsOf_sub e r vs' hs h2)
  | e, .bool b :: r, vs, hs, h => by
    obtain ⟨v, vs', rfl, h1, h2⟩ := h.cons_right
    exact All2.cons h1 (scsOf_sub e r vs' hs h2)
  | e, .fz ks rows :: r, vs, hs, h => by
    obtain ⟨v, vs', rfl, h1, h2⟩ := h.cons_right
    exact All2.cons h1 (scsOf_sub e r vs' hs h2)
  | e, .own ty ks rows :: r, vs, hs, h => by
    obtain ⟨v, vs', rfl, h1, h2⟩ := h.cons_right
    refine All2.cons ⟨h1.1, hs e (by simp [obsOf, look])⟩ (scsOf_sub (e + 1000) r vs' (fun j hj => hs j ?_) h2)
    simp only [obsOf, look]; split
    · rfl
    · exact hj
  | e, .bx bs :: r, vs, hs, h => by
    obtain ⟨v, vs', rfl, h1, h2⟩ := h.cons_right
    obtain ⟨b, g1, g2, _⟩ := h1
    refine All2.cons ⟨b, g1, g2, hs e (by simp [obsOf, look])⟩ (scsOf_sub (e + 1000) r vs' (fun j hj => hs j ?_) h2)
    simp only [obsOf, look]; split
    · rfl
    · exact hj
theorem tupS_sub : ∀ (e : Nat) (ps : List (Bool × List Rc)) (vs : List Value), (∀ j, (look (tupO e ps) j).isSome → (look ob1 j).isSome) → All2 (PRel w U ob0 ρ) vs (tupS e ps) → All2 (PRel w U ob1 ρ) vs (tupS e ps)
  | e, [], vs, _, h => by rw [All2.nil_right h]; exact All2.nil
  | e, (g, cs) :: r, vs, hs, h => by
    obtain ⟨v, vs', rfl, h1, h2⟩ := h.cons_right
    have hs1 : ∀ j, (look (obsOf e cs) j).isSome → (look ob1 j).isSome := fun j hj => hs j (by simp only [tupO, look_append, Option.isSome_or, hj, Bool.true_or])
    refine All2.cons ?_ (tupS_sub (nxt e cs) r vs' (fun j hj => hs j (by simp only [tupO, look_append, Option.isSome_or, hj, Bool.or_true])) h2)
    cases g with
    | true =>
      obtain ⟨us, rfl, h'⟩ := PRel.agg_iff.1 h1
      exact PRel.agg_iff.2 ⟨us, rfl, scsOf_sub e cs us hs1 h'⟩
    | false =>
      obtain ⟨s, hq, h'⟩ := h1.one_inv
      have h3 := scsOf_sub (ob1 := ob1) e cs [v] hs1 (by rw [hq]; exact All2.nil.cons h')
      rw [hq] at h3 ⊢
      exact h3.head
theorem RsV_sub (r : Rs) (v : Value) (hs : ∀ j, (look (r.O 0) j).isSome → (look ob1 j).isSome) (hv : VRel w U ob0 ρ v (r.V 0)) : VRel w U ob1 ρ v (r.V 0) := by
  cases r with
  | one c =>
    obtain ⟨s, hq⟩ : ∃ s, scsOf 0 [c] = [s] := by cases c <;> exact ⟨_, rfl⟩
    simp only [Rs.V, hq] at hv ⊢
    have h3 := scsOf_sub (ob1 := ob1) 0 [c] [v] hs (by rw [hq]; exact All2.nil.cons hv)
    rw [hq] at h3
    exact h3.head
  | agg cs =>
    obtain ⟨vs, rfl, h⟩ := hv
    exact ⟨vs, rfl, scsOf_sub 0 cs vs hs h⟩
  | tup ps =>
    obtain ⟨vs, rfl, h⟩ := hv
    exact ⟨vs, rfl, tupS_sub 0 ps vs hs h⟩
end sub

section call
variable {x : Cx} {σ : St} {ρ : Nat → Value} {a : Act} {w w' : World}
/-- the numbers by which the callee sees what it is handed -/
def mρ (ids : List Nat) (ρ : Nat → Value) : Nat → Value := fun j => match ids[j - 500000]? with
  | some i => if 500000 ≤ j then ρ i else .slice none 0 0
  | none => .slice none 0 0
theorem mρ_at {ids : List Nat} {k i : Nat} (h : ids[k]? = some i) : mρ ids ρ (k + 500000) = ρ i := by
  simp [mρ, h]
theorem mρ_blk {ids : List Nat} {j b : Nat} (h : blk (mρ ids ρ j) = some b) : ∃ i, 500000 ≤ j ∧ ids[j - 500000]? = some i ∧ blk (ρ i) = some b := by
  unfold mρ at h
  split at h
  · rename_i i hi
    split at h
    · exact ⟨i, by assumption, hi, h⟩
    · cases h
  · cases h
/-- what the caller hands over -/
structure Hands (σ : St) (ids : List Nat) (obs : List Mo) : Prop where
  len : obs.length = ids.length
  ob : ∀ (k i : Nat) (o : Mo), ids[k]? = some i → obs[k]? = some o → look σ.ob i = some o.ob
  nodup : ids.Nodup
theorem Hands.get {ids : List Nat} {obs : List Mo} (hh : Hands σ ids obs) {k i : Nat} (h : ids[k]? = some i) : ∃ o, obs[k]? = some o ∧ look σ.ob i = some o.ob := by
  have hk : k < obs.length := by rw [hh.len]; exact (List.getElem?_eq_some_iff.1 h).1
  exact ⟨obs[k], List.getElem?_eq_getElem hk, hh.ob k i _ h (List.getElem?_eq_getElem hk)⟩
theorem Hands.own {ids : List Nat} {obs : List Mo} (hh : Hands σ ids obs) {b : Nat} : Own (numb 500000 obs) (mρ ids ρ) b ↔ ∃ (k i : Nat), ids[k]? = some i ∧ blk (ρ i) = some b := by
  constructor
  · rintro ⟨j, o, hj, hb⟩
    obtain ⟨i, _, h2, h3⟩ := mρ_blk hb
    exact ⟨_, i, h2, h3⟩
  · rintro ⟨k, i, hk, hb⟩
    obtain ⟨o, ho, _⟩ := hh.get hk
    exact ⟨k + 500000, _, numb_at ho, by rw [mρ_at hk]; exact hb⟩
theorem Hands.own_old {ids : List Nat} {obs : List Mo} (hh : Hands σ ids obs) {b : Nat} (h : Own (numb 500000 obs) (mρ ids ρ) b) : Own σ.ob ρ b := by
  obtain ⟨k, i, hk, hb⟩ := hh.own.1 h
  obtain ⟨o, _, ho⟩ := hh.get hk
  exact ⟨i, _, ho, hb⟩
theorem Rel.menter (h : Rel x σ ρ a w) {ids : List Nat} {obs : List Mo} (hh : Hands σ ids obs) :
    Rel (cxM (x.U σ.ob ρ) w (numb 500000 obs) (mρ ids ρ)) ⟨[], numb 500000 obs⟩ (mρ ids ρ) ⟨#[], []⟩ w ∧
    ∀ b, x.U σ.ob ρ b → Cx.U (cxM (x.U σ.ob ρ) w (numb 500000 obs) (mρ ids ρ)) (numb 500000 obs) (mρ ids ρ) b := by
  have hU : ∀ b, x.U σ.ob ρ b → Cx.U (cxM (x.U σ.ob ρ) w (numb 500000 obs) (mρ ids ρ)) (numb 500000 obs) (mρ ids ρ) b := fun b hb => ⟨.inl hb, fun ho => hb.2 (hh.own_old ho)⟩
  refine ⟨⟨fun t V hV => by simp [look] at hV, fun j o hj => ?_, fun i j oi oj b hi hj hbi hbj => ?_, fun i o b hi hb => .inr ⟨⟨i, o, hi, hb⟩, rfl⟩, Grow.refl _, rfl, fun j v hv => ?_⟩, hU⟩
  · obtain ⟨h5, mo, hmo, rfl⟩ := numb_some hj
    have hk : j - 500000 < ids.length := by rw [← hh.len]; exact (List.getElem?_eq_some_iff.1 hmo).1
    have hi := hh.ob _ _ mo (List.getElem?_eq_getElem hk) hmo
    have e : mρ ids ρ j = ρ ids[j - 500000] := by
      have := mρ_at (ρ := ρ) (List.getElem?_eq_getElem hk)
      rwa [Nat.sub_add_cancel h5] at this
    rw [e]
    exact (h.objs _ _ hi).mo hU
  · obtain ⟨i', h1, h2, h3⟩ := mρ_blk hbi
    obtain ⟨j', f1, f2, f3⟩ := mρ_blk hbj
    obtain ⟨oi', _, g1⟩ := hh.get h2
    obtain ⟨oj', _, g2⟩ := hh.get f2
    have := h.sep i' j' _ _ b g1 g2 h3 f3
    subst this
    have hk1 : i - 500000 < ids.length := (List.getElem?_eq_some_iff.1 h2).1
    have hk2 : j - 500000 < ids.length := (List.getElem?_eq_some_iff.1 f2).1
    have e1 := (List.getElem?_eq_some_iff.1 h2).2
    have e2 := (List.getElem?_eq_some_iff.1 f2).2
    have := (nodup_inj' hh.nodup h2 f2)
    omega
  · simp only [cxM] at hv
    split at hv
    · rename_i hs
      cases hv
      obtain ⟨o, ho⟩ := Option.isSome_iff_exists.1 hs
      exact ⟨(numb_some ho).1, hs, rfl⟩
    · cases hv

theorem ma_rel (h : Rel x σ ρ a w) {ids : List Nat} {obs : List Mo} (hh : Hands σ ids obs) {m : Ma} (hm : m.inB ids.length = true) {v : Value} (hv : SRel w (x.U σ.ob ρ) σ.ob ρ v (m.sc fun k => ids.getD k 0)) :
    SRel w (Cx.U (cxM (x.U σ.ob ρ) w (numb 500000 obs) (mρ ids ρ)) (numb 500000 obs) (mρ ids ρ)) (numb 500000 obs) (mρ ids ρ) v (m.sc (· + 500000)) := by
  have hU := (h.menter hh).2
  have at' : ∀ k, Nat.blt k ids.length = true → ids[k]? = some (ids.getD k 0) := fun k hk => by
    have hk : k < ids.length := Nat.le_of_ble_eq_true hk
    simp [List.getD, hk]
  cases m with
  | val c => exact C.toS_rel (C.toS_inv hv) (fun b _ => hU b)
  | ref k =>
    have hk := at' k hm
    obtain ⟨o, ho, _⟩ := hh.get hk
    exact ⟨by rw [mρ_at hk]; exact hv.1, by rw [numb_at ho]; rfl⟩
  | ptr k =>
    have hk := at' k hm
    obtain ⟨o, ho, _⟩ := hh.get hk
    obtain ⟨b, h1, h2, _⟩ := hv
    exact ⟨b, by rw [mρ_at hk]; exact h1, h2, by rw [numb_at ho]; rfl⟩
  | nil => exact hv
def maIn (n : Nat) (args : List (Bool × List Ma)) : Bool := args.all fun p => p.2.all (Ma.inB n)
theorem maV_rel (h : Rel x σ ρ a w) {ids : List Nat} {obs : List Mo} (hh : Hands σ ids obs) {p : Bool × List Ma} (hm : p.2.all (Ma.inB ids.length) = true) {v : Value} (hv : VRel w (x.U σ.ob ρ) σ.ob ρ v (maV (fun k => ids.getD k 0) p)) :
    VRel w (Cx.U (cxM (x.U σ.ob ρ) w (numb 500000 obs) (mρ ids ρ)) (numb 500000 obs) (mρ ids ρ)) (numb 500000 obs) (mρ ids ρ) v (maV (· + 500000) p) := by
  obtain ⟨g, ms⟩ := p
  cases g with
  | true =>
    obtain ⟨vs, rfl, hvs⟩ := hv
    refine ⟨vs, rfl, by simpa using hvs.1, fun j u s hu hs => ?_⟩
    simp only [List.getElem?_map, Option.map_eq_some_iff] at hs
    obtain ⟨m, hm', rfl⟩ := hs
    exact ma_rel h hh (List.all_eq_true.1 hm m (List.mem_of_getElem? hm')) (hvs.2 j u _ hu (by simp [hm']))
  | false =>
    match ms, hv with
    | [], _ => trivial
    | [m], hv => exact ma_rel h hh (by simpa using hm) hv
    | _ :: _ :: _, _ => trivial
theorem mas_rel (h : Rel x σ ρ a w) {ids : List Nat} {obs : List Mo} (hh : Hands σ ids obs) {args : List (Bool × List Ma)} (hm : maIn ids.length args = true) {vals : List Value} (hv : All2 (VRel w (x.U σ.ob ρ) σ.ob ρ) vals (args.map (maV fun k => ids.getD k 0))) :
    All2 (VRel w (Cx.U (cxM (x.U σ.ob ρ) w (numb 500000 obs) (mρ ids ρ)) (numb 500000 obs) (mρ ids ρ)) (numb 500000 obs) (mρ ids ρ)) vals (args.map (maV (· + 500000))) := by
  refine ⟨by simpa using hv.1, fun j u V hu hV => ?_⟩
  simp only [List.getElem?_map, Option.map_eq_some_iff] at hV
  obtain ⟨p, hp, rfl⟩ := hV
  exact maV_rel h hh (List.all_eq_true.1 hm p (List.mem_of_getElem? hp)) (hv.2 j u _ hu (by simp [hp]))

/-- after a call that changes what it was handed -/
theorem Rel.mleave (h : Rel x σ ρ a w) {ids : List Nat} {obs obs' : List Mo} (hh : Hands σ ids obs) (hl' : obs'.length = ids.length) (hlike : ∀ (k : Nat) (o o' : Mo), obs[k]? = some o → obs'[k]? = some o' → o.like o')
    {r : Rs} {v : Value} {ρ' : Nat → Value} (hr : Rel (cxM (x.U σ.ob ρ) w (numb 500000 obs) (mρ ids ρ)) ⟨[], r.O 0 ++ numb 500000 obs'⟩ ρ' ⟨#[], []⟩ w')
    (hv : VRel w' (Cx.U (cxM (x.U σ.ob ρ) w (numb 500000 obs) (mρ ids ρ)) (r.O 0 ++ numb 500000 obs') ρ') (r.O 0 ++ numb 500000 obs') ρ' v (r.V 0))
    (hr0 : ∀ j, (look (r.O 0) j).isSome → j < 500000) {d : Nat} (hno : ∀ j, (look (r.O d) j).isSome → look σ.ob j = none) :
    ∃ ρ'', Rel x ⟨mapV (V.killL ids) σ.sl, zipO ids obs' ++ (r.O d ++ mapV (Ob.killL ids) σ.ob)⟩ ρ'' a w' ∧
      VRel w' (x.U (zipO ids obs' ++ (r.O d ++ mapV (Ob.killL ids) σ.ob)) ρ'') (zipO ids obs' ++ (r.O d ++ mapV (Ob.killL ids) σ.ob)) ρ'' v (r.V d) := by
  let ρ2 : Nat → Value := fun j => if (look (r.O d) j).isSome then ρ' (j - d) else ρ j
  let obF := zipO ids obs' ++ (r.O d ++ mapV (Ob.killL ids) σ.ob)
  have hE : Ext w w' (Own (numb 500000 obs) (mρ ids ρ)) := hr.grow.toExt
  have hn : ∀ j, look (r.O d) (j + d) = look (r.O 0) j := fun j => Rs.O_shift r d j
  have hge : ∀ j, (look (r.O d) j).isSome → ∃ i, j = i + d ∧ look (r.O 0) i = look (r.O d) j := fun j hj => by
    have := Rs.O_ge r d j hj
    refine ⟨j - d, by omega, ?_⟩
    rw [← hn, Nat.sub_add_cancel this]
  -- the callee's objects
  have c0 : ∀ j o, look (r.O 0) j = some o → look (r.O 0 ++ numb 500000 obs') j = some o := fun j o hj => by rw [look_append, hj]; rfl
  have c1 : ∀ (k : Nat) (o : Mo), obs'[k]? = some o → look (r.O 0 ++ numb 500000 obs') (k + 500000) = some o.ob := fun k o hk => by
    rw [look_append]
    cases hq : look (r.O 0) (k + 500000) with
    | none => simpa using numb_at hk
    | some o2 => have := hr0 _ (by rw [hq]; rfl); omega
  have get' : ∀ (k i : Nat), ids[k]? = some i → ∃ o', obs'[k]? = some o' := fun k i hk => by
    have : k < obs'.length := by rw [hl']; exact (List.getElem?_eq_some_iff.1 hk).1
    exact ⟨obs'[k], List.getElem?_eq_getElem this⟩
  have fixρ : ∀ (k i : Nat), ids[k]? = some i → ρ' (k + 500000) = ρ i := fun k i hk => by
    obtain ⟨o, ho, _⟩ := hh.get hk
    have := hr.fix (k + 500000) (mρ ids ρ (k + 500000)) (by simp only [cxM]; rw [if_pos (by rw [numb_at ho]; rfl)])
    rw [this.2.2, mρ_at hk]
  -- the objects behind the call
  have inids : ∀ i, i ∈ ids → ∃ k : Nat, ids[k]? = some i := fun i hi => List.getElem?_of_mem hi
  have oldsome : ∀ i, i ∈ ids → (look σ.ob i).isSome := fun i hi => by
    obtain ⟨k, hk⟩ := inids i hi
    obtain ⟨o, _, ho⟩ := hh.get hk
    rw [ho]; rfl
  have lF1 : ∀ (k i : Nat) (o' : Mo), ids[k]? = some i → obs'[k]? = some o' → look obF i = some o'.ob := fun k i o' hk ho => by
    show look (zipO ids obs' ++ _) i = _
    rw [look_append, zipO_at hh.nodup hk ho]; rfl
  have lF2 : ∀ j, j ∉ ids → ∀ o, look (r.O d) j = some o → look obF j = some o := fun j hj o ho => by
    show look (zipO ids obs' ++ _) j = _
    rw [look_append, zipO_none hj, look_append, ho]; rfl
  have lF3 : ∀ j, j ∉ ids → look (r.O d) j = none → look obF j = (look σ.ob j).map (Ob.killL ids) := fun j hj ho => by
    show look (zipO ids obs' ++ _) j = _
    rw [look_append, zipO_none hj, look_append, ho, look_mapV]; rfl
  have newnot : ∀ j, (look (r.O d) j).isSome → j ∉ ids := fun j hj hi => by
    have := oldsome j hi
    rw [hno j hj] at this; cases this
  have oldnone : ∀ j, (look σ.ob j).isSome → look (r.O d) j = none := fun j hj => by
    cases hq : look (r.O d) j with
    | none => rfl
    | some o => have := hno j (by simp [hq]); rw [this] at hj; cases hj
  have hρo : ∀ j, look (r.O d) j = none → ρ2 j = ρ j := fun j hj => by
    show (if (look (r.O d) j).isSome then ρ' (j - d) else ρ j) = _
    rw [hj]; rfl
  have hρn : ∀ j, (look (r.O 0) j).isSome → ρ2 (j + d) = ρ' j := fun j hj => by
    show (if (look (r.O d) (j + d)).isSome then ρ' (j + d - d) else ρ (j + d)) = _
    rw [hn, if_pos hj, Nat.add_sub_cancel]
  have hρs : ∀ j, (look σ.ob j).isSome → ρ2 j = ρ j := fun j hj => hρo j (oldnone j hj)
  -- blocks
  have hfr : ∀ i oi b, look (r.O 0) i = some oi → blk (ρ' i) = some b → w.heap.size ≤ b := fun i oi b hi hb => by
    rcases hr.fresh i oi b (c0 i oi hi) hb with h1 | h1
    · exact h1
    · obtain ⟨k, i2, hk, hb2⟩ := hh.own.1 h1.1
      obtain ⟨o', ho'⟩ := get' k i2 hk
      have e := hr.sep i (k + 500000) _ _ b (c0 i oi hi) (c1 k o' ho') hb (by rw [fixρ k i2 hk]; exact hb2)
      have := hr0 i (by rw [hi]; rfl)
      omega
  have hM : ∀ b, Own (numb 500000 obs) (mρ ids ρ) b → ∃ (k i : Nat), ids[k]? = some i ∧ blk (ρ i) = some b := fun b hb => hh.own.1 hb
  have hownF : ∀ b, Own obF ρ2 b → (∃ j o, j ∉ ids ∧ look σ.ob j = some o ∧ blk (ρ j) = some b) ∨ Own (r.O 0 ++ numb 500000 obs') ρ' b := by
    rintro b ⟨j, o, hj, hb⟩
    by_cases hi : j ∈ ids
    · obtain ⟨k, hk⟩ := inids j hi
      obtain ⟨o', ho'⟩ := get' k j hk
      rw [hρs j (oldsome j hi)] at hb
      exact .inr ⟨k + 500000, _, c1 k o' ho', by rw [fixρ k j hk]; exact hb⟩
    · cases hq : look (r.O d) j with
      | some o2 =>
        obtain ⟨i, rfl, h2⟩ := hge j (by simp [hq])
        rw [hρn i (by rw [h2, hq]; rfl)] at hb
        exact .inr ⟨i, o2, c0 i o2 (by rw [h2, hq]), hb⟩
      | none =>
        rw [hρo j hq] at hb
        rw [lF3 j hi hq] at hj
        simp only [Option.map_eq_some_iff] at hj
        obtain ⟨o3, h3, _⟩ := hj
        exact .inl ⟨j, o3, hi, h3, hb⟩
  have hU : ∀ b, b < w.heap.size → x.U σ.ob ρ b → x.U obF ρ2 b := fun b hb hx => ⟨hx.1, fun ho => by
    rcases hownF b ho with ⟨j, o, _, h1, h2⟩ | ⟨j, o, h1, h2⟩
    · exact hx.2 ⟨j, o, h1, h2⟩
    · rcases hr.fresh j o b h1 h2 with h3 | h3
      · exact absurd h3 (by show ¬ w.heap.size ≤ b; omega)
      · exact hx.2 (hh.own_old h3.1)⟩
  have hUc : ∀ b, Cx.U (cxM (x.U σ.ob ρ) w (numb 500000 obs) (mρ ids ρ)) (r.O 0 ++ numb 500000 obs') ρ' b → x.U obF ρ2 b := by
    rintro b ⟨h1, h2⟩
    refine ⟨?_, fun ho => ?_⟩
    · rcases h1 with h1 | h1 | h1
      · exact h1.1
      · obtain ⟨k, i, hk, hb⟩ := hM b h1
        obtain ⟨o, _, ho⟩ := hh.get hk
        rcases h.fresh i _ b ho hb with h3 | h3
        · exact .inr (.inr h3)
        · exact .inr (.inl h3.1)
      · exact .inr (.inr (Nat.le_trans h.grow.size h1))
    · rcases hownF b ho with ⟨j, o, hj, h3, h4⟩ | h3
      · have hlt := (h.objs j o h3).blk_lt h4
        rcases h1 with h1 | h1 | h1
        · exact h1.2 ⟨j, o, h3, h4⟩
        · obtain ⟨k, i, hk, hb⟩ := hM b h1
          obtain ⟨oi, _, hoi⟩ := hh.get hk
          have := h.sep j i _ _ b h3 hoi h4 hb
          subst this
          exact hj (List.mem_of_getElem? hk)
        · exact absurd h1 (by show ¬ w.heap.size ≤ b; omega)
      · exact h2 h3
  have hUM : ∀ b, x.U σ.ob ρ b → ¬ Own (numb 500000 obs) (mρ ids ρ) b := fun b hb ho => hb.2 (hh.own_old ho)
  have hob : ∀ j o, look σ.ob j = some o → ∃ o', look obF j = some o' ∧ ∀ ty ks rows, o = .row ty ks rows → ∃ rows', o' = .row ty ks rows' ∧ (j ∉ ids → rows' = rows) := by
    intro j o ho
    by_cases hi : j ∈ ids
    · obtain ⟨k, hk⟩ := inids j hi
      obtain ⟨o', ho'⟩ := get' k j hk
      obtain ⟨o1, ho1, h1⟩ := hh.get hk
      rw [h1] at ho; cases ho
      refine ⟨_, lF1 k j o' hk ho', fun ty ks rows e => ?_⟩
      have hl := hlike k o1 o' ho1 ho'
      cases o1 with
      | box cs => cases e
      | row ty1 ks1 rows1 =>
        cases e
        cases o' with
        | box cs => exact hl.elim
        | row ty2 ks2 rows2 =>
          obtain ⟨rfl, rfl⟩ := hl
          exact ⟨rows2, rfl, fun hni => absurd hi hni⟩
    · refine ⟨o.killL ids, by rw [lF3 j hi (oldnone j (by rw [ho]; rfl)), ho]; rfl, fun ty ks rows e => ?_⟩
      subst e
      exact ⟨rows, rfl, fun _ => rfl⟩
  have hoM : ∀ j, j ∉ ids → (look σ.ob j).isSome → ∀ b, blk (ρ j) = some b → ¬ Own (numb 500000 obs) (mρ ids ρ) b := fun j hj hs b hb ho => by
    obtain ⟨k, i, hk, hb2⟩ := hM b ho
    obtain ⟨o, hoj⟩ := Option.isSome_iff_exists.1 hs
    obtain ⟨oi, _, hoi⟩ := hh.get hk
    have := h.sep j i _ _ b hoj hoi hb hb2
    subst this
    exact hj (List.mem_of_getElem? hk)
  have hc : ∀ a u, ¬ Own (numb 500000 obs) (mρ ids ρ) a.block → w.cell? a = some u → w'.cell? a = some u := fun a u hb hu => hE.cell hb hu
  -- what block an object lies in
  have cross : ∀ j oj b, look obF j = some oj → blk (ρ2 j) = some b → ∃ jc oc, (jc, true) = (jc, true) ∧ ((j ∉ ids ∧ look (r.O d) j = none ∧ look σ.ob j = some oc ∧ blk (ρ j) = some b) ∨
      (look (r.O 0 ++ numb 500000 obs') jc = some oc ∧ blk (ρ' jc) = some b ∧ ((∃ k : Nat, jc = k + 500000 ∧ ids[k]? = some j) ∨ (jc < 500000 ∧ j = jc + d ∧ (look (r.O d) j).isSome)))) := by
    intro j oj b hj hb
    by_cases hi : j ∈ ids
    · obtain ⟨k, hk⟩ := inids j hi
      obtain ⟨o', ho'⟩ := get' k j hk
      rw [hρs j (oldsome j hi)] at hb
      exact ⟨k + 500000, o'.ob, rfl, .inr ⟨c1 k o' ho', by rw [fixρ k j hk]; exact hb, .inl ⟨k, rfl, hk⟩⟩⟩
    · cases hq : look (r.O d) j with
      | some o2 =>
        obtain ⟨i, rfl, h2⟩ := hge j (by simp [hq])
        rw [hρn i (by rw [h2, hq]; rfl)] at hb
        exact ⟨i, o2, rfl, .inr ⟨c0 i o2 (by rw [h2, hq]), hb, .inr ⟨hr0 i (by rw [h2, hq]; rfl), rfl, by simp⟩⟩⟩
      | none =>
        rw [hρo j hq] at hb
        rw [lF3 j hi hq] at hj
        simp only [Option.map_eq_some_iff] at hj
        obtain ⟨o3, h3, _⟩ := hj
        exact ⟨0, o3, rfl, .inl ⟨hi, rfl, h3, hb⟩⟩
  have apart : ∀ j oj b jc oc, j ∉ ids → look σ.ob j = some oj → blk (ρ j) = some b → look (r.O 0 ++ numb 500000 obs') jc = some oc → blk (ρ' jc) = some b → False := by
    intro j oj b jc oc hi hj hb hjc hbc
    have hlt := (h.objs j oj hj).blk_lt hb
    rcases hr.fresh jc oc b hjc hbc with h3 | h3
    · exact absurd h3 (by show ¬ w.heap.size ≤ b; omega)
    · exact hoM j hi (by rw [hj]; rfl) b hb h3.1
  have hfrF : ∀ i o b, look obF i = some o → blk (ρ2 i) = some b → x.w0.heap.size ≤ b ∨ x.Mo b := fun i o b hi hb => by
    obtain ⟨ic, oic, _, h1⟩ := cross i o b hi hb
    rcases h1 with ⟨a1, a2, a3, a4⟩ | ⟨a1, a2, a3⟩
    · exact h.fresh i _ b a3 a4
    · rcases hr.fresh ic _ b a1 a2 with h3 | h3
      · exact .inl (Nat.le_trans h.grow.size h3)
      · obtain ⟨k, i2, hk, hb2⟩ := hM b h3.1
        obtain ⟨o2, _, ho2⟩ := hh.get hk
        exact h.fresh i2 _ b ho2 hb2
  have hX : ∀ b, b < w.heap.size → Xo (x.U σ.ob ρ) σ.ob ρ b → Xo (x.U obF ρ2) obF ρ2 b ∧ ¬ Own (numb 500000 obs) (mρ ids ρ) b := fun b _ hb => ⟨x.xo hfrF hb, fun ho => hb.2 (hh.own_old ho)⟩
  refine ⟨ρ2, ⟨fun t V' hV => ?_, fun j o hj => ?_, fun i j oi oj b hi hj hbi hbj => ?_, fun i o b hi hb => ?_, h.grow.trans hE fun b hb => ?_, h.defers, fun j v hv => ?_⟩, ?_⟩
  · simp only [look_mapV, Option.map_eq_some_iff] at hV
    obtain ⟨V, hV, rfl⟩ := hV
    exact VRel.killL ids _ hU hUM hob hρs hoM hc hX (h.slots t V hV)
  · by_cases hi : j ∈ ids
    · obtain ⟨k, hk⟩ := inids j hi
      obtain ⟨o', ho'⟩ := get' k j hk
      dsimp only at hj
      rw [lF1 k j o' hk ho'] at hj; cases hj
      rw [hρs j (oldsome j hi), ← fixρ k j hk]
      exact (hr.objs _ _ (c1 k o' ho')).mo hUc
    · cases hq : look (r.O d) j with
      | some o2 =>
        dsimp only at hj
        rw [lF2 j hi o2 hq] at hj; cases hj
        obtain ⟨i, rfl, h2⟩ := hge j (by simp [hq])
        rw [hρn i (by rw [h2, hq]; rfl)]
        have hor := hr.objs i _ (c0 i _ (by rw [h2, hq]))
        rcases Rs.O_row r d _ _ hq with ⟨ty, ks, rows, rfl, _⟩ | ⟨bs, rfl, _⟩
        · exact ORel.mo (o := .row ty ks rows) hor hUc
        · exact ORel.mo (o := .box bs) hor hUc
      | none =>
        dsimp only at hj
        rw [lF3 j hi hq] at hj
        simp only [Option.map_eq_some_iff] at hj
        obtain ⟨o3, h3, rfl⟩ := hj
        rw [hρo j hq]
        have hor := h.objs j o3 h3
        exact ORel.killL ids _ hU hUM hob hρs hoM hc hX hor fun b hb => hE.block b (hor.blk_lt hb) (hoM j hi (by rw [h3]; rfl) b hb)
  · obtain ⟨ic, oic, _, h1⟩ := cross i oi b hi hbi
    obtain ⟨jc, ojc, _, h2⟩ := cross j oj b hj hbj
    rcases h1 with ⟨a1, a2, a3, a4⟩ | ⟨a1, a2, a3⟩ <;> rcases h2 with ⟨b1, b2, b3, b4⟩ | ⟨b1, b2, b3⟩
    · exact h.sep i j _ _ b a3 b3 a4 b4
    · exact (apart i _ b jc _ a1 a3 a4 b1 b2).elim
    · exact (apart j _ b ic _ b1 b3 b4 a1 a2).elim
    · have e := hr.sep ic jc _ _ b a1 b1 a2 b2
      rcases a3 with ⟨k, e1, hk⟩ | ⟨e1, e2, _⟩ <;> rcases b3 with ⟨k', f1, hk'⟩ | ⟨f1, f2, _⟩
      · have : k = k' := by omega
        subst this; rw [hk] at hk'; cases hk'; rfl
      · omega
      · omega
      · omega
  · exact hfrF i o b hi hb
  · obtain ⟨k, i2, hk, hb2⟩ := hM b hb
    obtain ⟨o2, _, ho2⟩ := hh.get hk
    exact (h.fresh i2 _ b ho2 hb2).symm
  · obtain ⟨f1, f2, f3⟩ := h.fix j v hv
    obtain ⟨o, ho⟩ := Option.isSome_iff_exists.1 f2
    obtain ⟨o', ho', _⟩ := hob j o ho
    exact ⟨f1, by rw [show look _ j = some o' from ho']; rfl, by rw [hρs j f2]; exact f3⟩
  · refine RsV_shift (U0 := Cx.U (cxM (x.U σ.ob ρ) w (numb 500000 obs) (mρ ids ρ)) (r.O 0 ++ numb 500000 obs') ρ') (ob0 := r.O 0) (ρ0 := ρ') d (fun j hj => ?_) r v (fun ks rows u _ hr' => hr'.mono (fun b _ => hUc b) fun _ _ _ h => h) ?_
    · obtain ⟨o, ho⟩ := Option.isSome_iff_exists.1 hj
      have hq : look (r.O d) (j + d) = some o := by rw [hn, ho]
      exact ⟨by rw [show look _ (j + d) = some o from lF2 (j + d) (newnot _ (by rw [hq]; rfl)) o hq]; rfl, hρn j hj⟩
    · exact RsV_sub r v (fun _ h => h) hv
end call
end Go.Vq
