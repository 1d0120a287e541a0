/- Part Oh of the small logic: calls that are handed slices and boxes of the caller's own for good. No conditions. -/
import Derived.Test.YtcibheinilkcoaaVcOa
namespace Go.Vq
open Go.RowKit

def cxH (S : Nat → Prop) (w : World) (ob : List (Nat × Ob)) (ρ : Nat → Value) : Cx := ⟨S, w, Own ob ρ, noF, false⟩
/-- a function that is handed objects for good -/
def FnH (P : Program) (f : Nat) (args : List (Bool × List Ma)) (obs : List Mo) (r : Rs) : Prop :=
  ∀ (S : Nat → Prop) (vals : List Value) (w : World) (ρ : Nat → Value), Rel (cxH S w (numb 400000 obs) ρ) ⟨[], numb 400000 obs⟩ ρ ⟨#[], []⟩ w →
    All2 (VRel w (Cx.U (cxH S w (numb 400000 obs) ρ) (numb 400000 obs) ρ) (numb 400000 obs) ρ) vals (args.map (maV (· + 400000))) →
    Calls P f vals.toArray w fun e w' => ∃ v ρ', e = .returned v ∧ Rel (cxH S w (numb 400000 obs) ρ) ⟨[], r.O 0⟩ ρ' ⟨#[], []⟩ w' ∧
      VRel w' (Cx.U (cxH S w (numb 400000 obs) ρ) (r.O 0) ρ') (r.O 0) ρ' v (r.V 0)

def Sc.killA (ids : List Nat) : Sc → Sc
  | .vw i ks rows => match memN i ids with
    | true => .any
    | false => .vw i ks rows
  | .vp i cs => match memN i ids with
    | true => .any
    | false => .vp i cs
  | .root i => match memN i ids with
    | true => .any
    | false => .root i
  | .bx i o => match memN i ids with
    | true => .any
    | false => .bx i o
  | .ep i j o => match memN i ids with
    | true => .any
    | false => .ep i j o
  | .fv i n => match memN i ids with
    | true => .any
    | false => .fv i n
  | s => s
def V.killA (ids : List Nat) : V → V
  | .one s => .one (s.killA ids)
  | .agg ss => .agg (ss.map (Sc.killA ids))
  | .tup ps => .tup (ps.map fun p => (p.1, p.2.map (Sc.killA ids)))
def Ob.killA (ids : List Nat) : Ob → Ob
  | .row ty ks rows => .row ty ks rows
  | .box ss => .box (ss.map (Sc.killA ids))
def dropO (ids : List Nat) : List (Nat × Ob) → List (Nat × Ob)
  | [] => []
  | (k, o) :: r => match memN k ids with
    | true => dropO ids r
    | false => (k, o) :: dropO ids r
theorem look_dropO (ids : List Nat) (j : Nat) : ∀ ob : List (Nat × Ob), look (dropO ids ob) j = if memN j ids = true then none else look ob j
  | [] => by simp [dropO, look]
  | (k, o) :: r => by
    simp only [dropO]
    split
    · rename_i hk
      rw [look_dropO ids j r, look_cons]
      by_cases h : k = j
      · subst h; simp [hk]
      · rw [if_neg h]
    · rename_i hk
      rw [look_cons, look_cons, look_dropO ids j r]
      by_cases h : k = j
      · subst h; simp [hk]
      · rw [if_neg h, if_neg h]

section kill
variable {w w' : World} {U U' : Nat → Prop} {ob ob' : List (Nat × Ob)} {ρ ρ' : Nat → Value} (ids : List Nat) (M : Nat → Prop)
  (hU : ∀ b, b < w.heap.size → U b → U' b) (hUM : ∀ b, U b → ¬ M b)
  (hob : ∀ j o, j ∉ ids → look ob j = some o → ∃ o', look ob' j = some o' ∧ ∀ ty ks rows, o = .row ty ks rows → o' = .row ty ks rows)
  (hρ : ∀ j, j ∉ ids → (look ob j).isSome → ρ' j = ρ j)
  (hoM : ∀ j, j ∉ ids → (look ob j).isSome → ∀ b, blk (ρ j) = some b → ¬ M b)
  (hc : ∀ a u, ¬ M a.block → w.cell? a = some u → w'.cell? a = some u)
  (hX : ∀ b, b < w.heap.size → Xo U ob ρ b → Xo U' ob' ρ' b ∧ ¬ M b)
include hU hUM hob hρ hoM hc hX
theorem SRel.killA {v : Value} {s : Sc} (h : SRel w U ob ρ v s) : SRel w' U' ob' ρ' v (s.killA ids) := by
  have hcU : ∀ a u, U a.block → w.cell? a = some u → w'.cell? a = some u := fun a u hb => hc a u (hUM _ hb)
  have nm : ∀ {i : Nat}, memN i ids = false → i ∉ ids := fun hi hm => by rw [(memN_iff _ ids).2 hm] at hi; cases hi
  have some' : ∀ j, j ∉ ids → (look ob j).isSome → (look ob' j).isSome := fun j hn hj => by
    obtain ⟨o, ho⟩ := Option.isSome_iff_exists.1 hj
    obtain ⟨o', h1, _⟩ := hob j o hn ho
    simp [h1]
  have row' : ∀ j, j ∉ ids → IsRow ob j → IsRow ob' j := fun j hn ⟨ty, ks, rows, ho⟩ => by
    obtain ⟨o', h1, h2⟩ := hob j _ hn ho
    exact ⟨ty, ks, rows, by rw [h1, h2 ty ks rows rfl]⟩
  cases s with
  | any => trivial
  | und => exact h
  | int k n => exact h
  | bool b => exact h
  | nil => exact h
  | ro ks rows => exact Rd.mono h hU hcU
  | vw i ks rows =>
    simp only [Sc.killA]
    split
    · trivial
    · rename_i hi
      have hni := nm hi
      obtain ⟨h1, h2⟩ := h
      refine ⟨h1.mono (fun b hb hx => ?_) (fun a u hx => hc a u (hx.elim (hUM _) (fun h => hoM i hni h2.isSome _ h))), row' i hni h2⟩
      rw [hρ i hni h2.isSome]; exact hx.imp (hU b hb) (fun h => h)
  | root i =>
    simp only [Sc.killA]
    split
    · trivial
    · rename_i hi; exact ⟨by rw [hρ i (nm hi) h.2]; exact h.1, some' i (nm hi) h.2⟩
  | bx i off =>
    simp only [Sc.killA]
    split
    · trivial
    · rename_i hi
      obtain ⟨b, h1, h2, h3⟩ := h
      exact ⟨b, by rw [hρ i (nm hi) h3]; exact h1, h2, some' i (nm hi) h3⟩
  | rp cells =>
    obtain ⟨a, rfl, h1, h2⟩ := h
    refine ⟨a, rfl, fun hne => ?_, fun j c hj => ?_⟩
    · cases cells with
      | nil => exact absurd rfl hne
      | cons c cs =>
        obtain ⟨u, hu, _⟩ := h2 0 c rfl
        have := World.block_lt_of_cell? w _ hu
        rw [add_block] at this
        exact hU _ this (h1 hne)
    · obtain ⟨u, hu, hr⟩ := h2 j c hj
      refine ⟨u, hcU _ _ ?_ hu, hr.mono hU hcU⟩
      rw [add_block]
      exact h1 (by intro e; subst e; simp at hj)
  | vp i cells =>
    simp only [Sc.killA]
    split
    · trivial
    · rename_i hi
      have hni := nm hi
      obtain ⟨a, rfl, h1, h3, h2⟩ := h
      have hcV : ∀ a u, (U a.block ∨ blk (ρ i) = some a.block) → w.cell? a = some u → w'.cell? a = some u := fun a u hx => hc a u (hx.elim (hUM _) (fun h => hoM i hni h3.isSome _ h))
      refine ⟨a, rfl, fun hne => ?_, row' i hni h3, fun j c hj => ?_⟩
      · rw [hρ i hni h3.isSome]
        cases cells with
        | nil => exact absurd rfl hne
        | cons c cs =>
          obtain ⟨u, hu, _⟩ := h2 0 c rfl
          have := World.block_lt_of_cell? w _ hu
          rw [add_block] at this
          exact (h1 hne).imp (hU _ this) (fun h => h)
      · obtain ⟨u, hu, hr⟩ := h2 j c hj
        refine ⟨u, hcV _ _ ?_ hu, hr.mono (fun b hb hx => by rw [hρ i hni h3.isSome]; exact hx.imp (hU b hb) (fun h => h)) hcV⟩
        rw [add_block]
        exact h1 (by intro e; subst e; simp at hj)
  | ep i k off =>
    simp only [Sc.killA]
    split
    · trivial
    · rename_i hi
      obtain ⟨g, n, cap, ty, ks, rows, h1, h2, h3⟩ := h
      obtain ⟨o', h4, h5⟩ := hob i _ (nm hi) h1
      exact ⟨g, n, cap, ty, ks, rows, by rw [h4, h5 ty ks rows rfl], by rw [hρ i (nm hi) (by simp [h1])]; exact h2, h3⟩
  | fv i k =>
    simp only [Sc.killA]
    split
    · trivial
    · rename_i hi
      obtain ⟨g, n, cap, ty, ks, rows, h1, h2, h3⟩ := h
      obtain ⟨o', h4, h5⟩ := hob i _ (nm hi) h1
      exact ⟨g, n, cap, ty, ks, rows, by rw [h4, h5 ty ks rows rfl], by rw [hρ i (nm hi) (by simp [h1])]; exact h2, h3⟩
  | fn f caps =>
    obtain ⟨vs, rfl, h⟩ := h
    exact ⟨vs, rfl, h.mono fun _ _ h => h.mono hU hcU⟩
  | xr ks rows => exact Rd.mono h (fun b hb hx => (hX b hb hx).1) fun a u hx hu => hc a u (hX _ (World.block_lt_of_cell? w _ hu) hx).2 hu
  | xp cells =>
    obtain ⟨a, rfl, h1, h2⟩ := h
    have hcX : ∀ a u, Xo U ob ρ a.block → w.cell? a = some u → w'.cell? a = some u := fun a u hx hu => hc a u (hX _ (World.block_lt_of_cell? w _ hu) hx).2 hu
    refine ⟨a, rfl, fun hne => ?_, fun j c hj => ?_⟩
    · cases cells with
      | nil => exact absurd rfl hne
      | cons c cs =>
        obtain ⟨u, hu, _⟩ := h2 0 c rfl
        have := World.block_lt_of_cell? w _ hu
        rw [add_block] at this
        exact (hX _ this (h1 hne)).1
    · obtain ⟨u, hu, hr⟩ := h2 j c hj
      refine ⟨u, hcX _ _ ?_ hu, hr.mono (fun b hb hx => (hX b hb hx).1) hcX⟩
      rw [add_block]
      exact h1 (by intro e; subst e; simp at hj)
theorem VRel.killA {v : Value} {V : V} (h : VRel w U ob ρ v V) : VRel w' U' ob' ρ' v (V.killA ids) := by
  cases V with
  | one s => exact SRel.killA ids M hU hUM hob hρ hoM hc hX h
  | agg ss =>
    obtain ⟨vs, rfl, h⟩ := h
    exact ⟨vs, rfl, h.map_right _ fun _ _ _ _ h => SRel.killA ids M hU hUM hob hρ hoM hc hX h⟩
  | tup ps =>
    obtain ⟨vs, rfl, h⟩ := h
    refine ⟨vs, rfl, h.map_right _ fun u _ p _ hp => ?_⟩
    obtain ⟨t, ss⟩ := p
    cases t with
    | true =>
      obtain ⟨us, rfl, h'⟩ := PRel.agg_iff.1 hp
      exact PRel.agg_iff.2 ⟨us, rfl, h'.map_right _ fun _ _ _ _ h => SRel.killA ids M hU hUM hob hρ hoM hc hX h⟩
    | false =>
      obtain ⟨s, rfl, h'⟩ := hp.one_inv
      exact SRel.killA ids M hU hUM hob hρ hoM hc hX h'
theorem ORel.killA {v : Value} {o : Ob} (h : ORel w U ob ρ v o) (hB : ∀ b, blk v = some b → w'.heap[b]? = w.heap[b]?) : ORel w' U' ob' ρ' v (o.killA ids) := by
  have hcU : ∀ a u, U a.block → w.cell? a = some u → w'.cell? a = some u := fun a u hb => hc a u (hUM _ hb)
  cases o with
  | row ty ks rows =>
    obtain ⟨xs, h1, h2, h3⟩ := h
    refine ⟨xs, ⟨h1.1, ?_⟩, h2, h3.mono fun _ _ h => h.mono hU hcU⟩
    rcases h1.2 with hn | ⟨g, cap, cur, rfl, hb, hg, rest⟩
    · exact .inl hn
    · exact .inr ⟨g, cap, cur, rfl, hb, by rw [hB g rfl]; exact hg, rest⟩
  | box ss =>
    obtain ⟨b, cs, ty, rfl, h1, h2⟩ := h
    exact ⟨b, cs, ty, rfl, by rw [hB b rfl]; exact h1, h2.map_right _ fun u _ s _ hs => ⟨hs.1, SRel.killA ids M hU hUM hob hρ hoM hc hX hs.2⟩⟩
end kill

section call
variable {x : Cx} {σ : St} {ρ : Nat → Value} {a : Act} {w w' : World}
/-- the numbers by which the callee sees what it is handed -/
def hρ (ids : List Nat) (ρ : Nat → Value) : Nat → Value := fun j => match ids[j - 400000]? with
  | some i => if 400000 ≤ j then ρ i else .slice none 0 0
  | none => .slice none 0 0
theorem hρ_at {ids : List Nat} {k i : Nat} (h : ids[k]? = some i) : hρ ids ρ (k + 400000) = ρ i := by
  simp [hρ, h]
theorem hρ_blk {ids : List Nat} {j b : Nat} (h : blk (hρ ids ρ j) = some b) : ∃ i, 400000 ≤ j ∧ ids[j - 400000]? = some i ∧ blk (ρ i) = some b := by
  unfold hρ at h
  split at h
  · rename_i i hi
    split at h
    · exact ⟨i, by assumption, hi, h⟩
    · cases h
  · cases h
theorem Hands.hown {ids : List Nat} {obs : List Mo} (hh : Hands σ ids obs) {b : Nat} : Own (numb 400000 obs) (hρ ids ρ) b ↔ ∃ (k i : Nat), ids[k]? = some i ∧ blk (ρ i) = some b := by
  constructor
  · rintro ⟨j, o, hj, hb⟩
    obtain ⟨i, _, h2, h3⟩ := hρ_blk hb
    exact ⟨_, i, h2, h3⟩
  · rintro ⟨k, i, hk, hb⟩
    obtain ⟨o, ho, _⟩ := hh.get hk
    exact ⟨k + 400000, _, numb_at ho, by rw [hρ_at hk]; exact hb⟩
theorem Hands.hown_old {ids : List Nat} {obs : List Mo} (hh : Hands σ ids obs) {b : Nat} (h : Own (numb 400000 obs) (hρ ids ρ) b) : Own σ.ob ρ b := by
  obtain ⟨k, i, hk, hb⟩ := hh.hown.1 h
  obtain ⟨o, _, ho⟩ := hh.get hk
  exact ⟨i, _, ho, hb⟩
theorem Rel.henter (h : Rel x σ ρ a w) {ids : List Nat} {obs : List Mo} (hh : Hands σ ids obs) :
    Rel (cxH (x.U σ.ob ρ) w (numb 400000 obs) (hρ ids ρ)) ⟨[], numb 400000 obs⟩ (hρ ids ρ) ⟨#[], []⟩ w ∧
    ∀ b, x.U σ.ob ρ b → Cx.U (cxH (x.U σ.ob ρ) w (numb 400000 obs) (hρ ids ρ)) (numb 400000 obs) (hρ ids ρ) b := by
  have hU : ∀ b, x.U σ.ob ρ b → Cx.U (cxH (x.U σ.ob ρ) w (numb 400000 obs) (hρ ids ρ)) (numb 400000 obs) (hρ ids ρ) b := fun b hb => ⟨.inl hb, fun ho => hb.2 (hh.hown_old ho)⟩
  refine ⟨⟨fun t V hV => by simp [look] at hV, fun j o hj => ?_, fun i j oi oj b hi hj hbi hbj => ?_, fun i o b hi hb => .inr ⟨⟨i, o, hi, hb⟩, rfl⟩, Grow.refl _, rfl, fun j v hv => by cases hv⟩, hU⟩
  · obtain ⟨h5, mo, hmo, rfl⟩ := numb_some hj
    have hk : j - 400000 < ids.length := by rw [← hh.len]; exact (List.getElem?_eq_some_iff.1 hmo).1
    have hi := hh.ob _ _ mo (List.getElem?_eq_getElem hk) hmo
    have e : hρ ids ρ j = ρ ids[j - 400000] := by
      have := hρ_at (ρ := ρ) (List.getElem?_eq_getElem hk)
      rwa [Nat.sub_add_cancel h5] at this
    rw [e]
    exact (h.objs _ _ hi).mo hU
  · obtain ⟨i', h1, h2, h3⟩ := hρ_blk hbi
    obtain ⟨j', f1, f2, f3⟩ := hρ_blk hbj
    obtain ⟨oi', _, g1⟩ := hh.get h2
    obtain ⟨oj', _, g2⟩ := hh.get f2
    have := h.sep i' j' _ _ b g1 g2 h3 f3
    subst this
    have := (nodup_inj' hh.nodup h2 f2)
    omega
theorem mh_rel (h : Rel x σ ρ a w) {ids : List Nat} {obs : List Mo} (hh : Hands σ ids obs) {m : Ma} (hm : m.inB ids.length = true) {v : Value} (hv : SRel w (x.U σ.ob ρ) σ.ob ρ v (m.sc fun k => ids.getD k 0)) :
    SRel w (Cx.U (cxH (x.U σ.ob ρ) w (numb 400000 obs) (hρ ids ρ)) (numb 400000 obs) (hρ ids ρ)) (numb 400000 obs) (hρ ids ρ) v (m.sc (· + 400000)) := by
  have hU := (h.henter hh).2
  have at' : ∀ k, Nat.blt k ids.length = true → ids[k]? = some (ids.getD k 0) := fun k hk => by
    have hk : k < ids.length := Nat.le_of_ble_eq_true hk
    simp [List.getD, hk]
  cases m with
  | val c => exact C.toS_rel (C.toS_inv hv) (fun b _ => hU b)
  | ref k =>
    have hk := at' k hm
    obtain ⟨o, ho, _⟩ := hh.get hk
    exact ⟨by rw [hρ_at hk]; exact hv.1, by rw [numb_at ho]; rfl⟩
  | ptr k =>
    have hk := at' k hm
    obtain ⟨o, ho, _⟩ := hh.get hk
    obtain ⟨b, h1, h2, _⟩ := hv
    exact ⟨b, by rw [hρ_at hk]; exact h1, h2, by rw [numb_at ho]; rfl⟩
  | nil => exact hv
theorem mhV_rel (h : Rel x σ ρ a w) {ids : List Nat} {obs : List Mo} (hh : Hands σ ids obs) {p : Bool × List Ma} (hm : p.2.all (Ma.inB ids.length) = true) {v : Value} (hv : VRel w (x.U σ.ob ρ) σ.ob ρ v (maV (fun k => ids.getD k 0) p)) :
    VRel w (Cx.U (cxH (x.U σ.ob ρ) w (numb 400000 obs) (hρ ids ρ)) (numb 400000 obs) (hρ ids ρ)) (numb 400000 obs) (hρ ids ρ) v (maV (· + 400000) p) := by
  obtain ⟨g, ms⟩ := p
  cases g with
  | true =>
    obtain ⟨vs, rfl, hvs⟩ := hv
    refine ⟨vs, rfl, by simpa using hvs.1, fun j u s hu hs => ?_⟩
    simp only [List.getElem?_map, Option.map_eq_some_iff] at hs
    obtain ⟨m, hm', rfl⟩ := hs
    exact mh_rel h hh (List.all_eq_true.1 hm m (List.mem_of_getElem? hm')) (hvs.2 j u _ hu (by simp [hm']))
  | false =>
    match ms, hv with
    | [], _ => trivial
    | [m], hv => exact mh_rel h hh (by simpa using hm) hv
    | _ :: _ :: _, _ => trivial
theorem mhs_rel (h : Rel x σ ρ a w) {ids : List Nat} {obs : List Mo} (hh : Hands σ ids obs) {args : List (Bool × List Ma)} (hm : maIn ids.length args = true) {vals : List Value} (hv : All2 (VRel w (x.U σ.ob ρ) σ.ob ρ) vals (args.map (maV fun k => ids.getD k 0))) :
    All2 (VRel w (Cx.U (cxH (x.U σ.ob ρ) w (numb 400000 obs) (hρ ids ρ)) (numb 400000 obs) (hρ ids ρ)) (numb 400000 obs) (hρ ids ρ)) vals (args.map (maV (· + 400000))) := by
  refine ⟨by simpa using hv.1, fun j u V hu hV => ?_⟩
  simp only [List.getElem?_map, Option.map_eq_some_iff] at hV
  obtain ⟨p, hp, rfl⟩ := hV
  exact mhV_rel h hh (List.all_eq_true.1 hm p (List.mem_of_getElem? hp)) (hv.2 j u _ hu (by simp [hp]))

def lowN (l : List Nat) : Bool := l.all fun i => Nat.blt i 500000
/-- after a call that was handed objects for good -/
theorem Rel.hleave (h : Rel x σ ρ a w) {ids : List Nat} {obs : List Mo} (hh : Hands σ ids obs) (hlo : lowN ids = true)
    {r : Rs} {v : Value} {ρ' : Nat → Value} (hr : Rel (cxH (x.U σ.ob ρ) w (numb 400000 obs) (hρ ids ρ)) ⟨[], r.O 0⟩ ρ' ⟨#[], []⟩ w')
    (hv : VRel w' (Cx.U (cxH (x.U σ.ob ρ) w (numb 400000 obs) (hρ ids ρ)) (r.O 0) ρ') (r.O 0) ρ' v (r.V 0))
    {d : Nat} (hno : ∀ j, (look (r.O d) j).isSome → look σ.ob j = none) :
    ∃ ρ'', Rel x ⟨mapV (V.killA ids) σ.sl, r.O d ++ mapV (Ob.killA ids) (dropO ids σ.ob)⟩ ρ'' a w' ∧
      VRel w' (x.U (r.O d ++ mapV (Ob.killA ids) (dropO ids σ.ob)) ρ'') (r.O d ++ mapV (Ob.killA ids) (dropO ids σ.ob)) ρ'' v (r.V d) := by
  let ρ2 : Nat → Value := fun j => if (look (r.O d) j).isSome then ρ' (j - d) else ρ j
  let obF := r.O d ++ mapV (Ob.killA ids) (dropO ids σ.ob)
  have hE : Ext w w' (Own (numb 400000 obs) (hρ ids ρ)) := hr.grow.toExt
  have hn : ∀ j, look (r.O d) (j + d) = look (r.O 0) j := fun j => Rs.O_shift r d j
  have hge : ∀ j, (look (r.O d) j).isSome → ∃ i, j = i + d ∧ look (r.O 0) i = look (r.O d) j := fun j hj => by
    have := Rs.O_ge r d j hj
    refine ⟨j - d, by omega, ?_⟩
    rw [← hn, Nat.sub_add_cancel this]
  have inids : ∀ i, i ∈ ids → ∃ k : Nat, ids[k]? = some i := fun i hi => List.getElem?_of_mem hi
  have memf : ∀ j, j ∉ ids → ¬ memN j ids = true := fun j hj hm => hj ((memN_iff j ids).1 hm)
  have lF2 : ∀ j o, look (r.O d) j = some o → look obF j = some o := fun j o ho => by
    show look (r.O d ++ _) j = _
    rw [look_append, ho]; rfl
  have lF3 : ∀ j, j ∉ ids → look (r.O d) j = none → look obF j = (look σ.ob j).map (Ob.killA ids) := fun j hj ho => by
    show look (r.O d ++ _) j = _
    rw [look_append, ho, look_mapV, look_dropO, if_neg (memf j hj)]; rfl
  have lF4 : ∀ j, j ∈ ids → look (r.O d) j = none → look obF j = none := fun j hj ho => by
    show look (r.O d ++ _) j = _
    rw [look_append, ho, look_mapV, look_dropO, if_pos ((memN_iff j ids).2 hj)]; rfl
  have oldnone : ∀ j, (look σ.ob j).isSome → look (r.O d) j = none := fun j hj => by
    cases hq : look (r.O d) j with
    | none => rfl
    | some o => have := hno j (by simp [hq]); rw [this] at hj; cases hj
  have hρo : ∀ j, look (r.O d) j = none → ρ2 j = ρ j := fun j hj => by
    show (if (look (r.O d) j).isSome then ρ' (j - d) else ρ j) = _
    rw [hj]; rfl
  have hρn : ∀ j, (look (r.O 0) j).isSome → ρ2 (j + d) = ρ' j := fun j hj => by
    show (if (look (r.O d) (j + d)).isSome then ρ' (j + d - d) else ρ (j + d)) = _
    rw [hn, if_pos hj, Nat.add_sub_cancel]
  have hρs : ∀ j, j ∉ ids → (look σ.ob j).isSome → ρ2 j = ρ j := fun j _ hj => hρo j (oldnone j hj)
  have hM : ∀ b, Own (numb 400000 obs) (hρ ids ρ) b → ∃ (k i : Nat), ids[k]? = some i ∧ blk (ρ i) = some b := fun b hb => hh.hown.1 hb
  have lkF : ∀ j o, look obF j = some o → (∃ i, j = i + d ∧ look (r.O 0) i = some o ∧ ρ2 j = ρ' i) ∨ (j ∉ ids ∧ look (r.O d) j = none ∧ ρ2 j = ρ j ∧ ∃ o3, look σ.ob j = some o3 ∧ o = o3.killA ids) := by
    intro j o hj
    cases hq : look (r.O d) j with
    | some o2 =>
      obtain ⟨i, rfl, h2⟩ := hge j (by simp [hq])
      rw [lF2 _ _ hq] at hj; cases hj
      exact .inl ⟨i, rfl, by rw [h2, hq], hρn i (by rw [h2, hq]; rfl)⟩
    | none =>
      by_cases hi : j ∈ ids
      · rw [lF4 j hi hq] at hj; cases hj
      · rw [lF3 j hi hq] at hj
        simp only [Option.map_eq_some_iff] at hj
        obtain ⟨o3, h3, h4⟩ := hj
        exact .inr ⟨hi, rfl, hρo j hq, o3, h3, h4.symm⟩
  have hownF : ∀ b, Own obF ρ2 b → (∃ j o, j ∉ ids ∧ look σ.ob j = some o ∧ blk (ρ j) = some b) ∨ Own (r.O 0) ρ' b := by
    rintro b ⟨j, o, hj, hb⟩
    rcases lkF j o hj with ⟨i, rfl, h1, h2⟩ | ⟨h1, _, h3, o3, h4, _⟩
    · rw [h2] at hb; exact .inr ⟨i, o, h1, hb⟩
    · rw [h3] at hb; exact .inl ⟨j, o3, h1, h4, hb⟩
  have hU : ∀ b, b < w.heap.size → x.U σ.ob ρ b → x.U obF ρ2 b := fun b hb hx => ⟨hx.1, fun ho => by
    rcases hownF b ho with ⟨j, o, _, h1, h2⟩ | ⟨j, o, h1, h2⟩
    · exact hx.2 ⟨j, o, h1, h2⟩
    · rcases hr.fresh j o b h1 h2 with h3 | h3
      · exact absurd h3 (by show ¬ w.heap.size ≤ b; omega)
      · exact hx.2 (hh.hown_old h3.1)⟩
  have hoM : ∀ j, j ∉ ids → (look σ.ob j).isSome → ∀ b, blk (ρ j) = some b → ¬ Own (numb 400000 obs) (hρ ids ρ) b := fun j hj hs b hb ho => by
    obtain ⟨k, i, hk, hb2⟩ := hM b ho
    obtain ⟨o, hoj⟩ := Option.isSome_iff_exists.1 hs
    obtain ⟨oi, _, hoi⟩ := hh.get hk
    have := h.sep j i _ _ b hoj hoi hb hb2
    subst this
    exact hj (List.mem_of_getElem? hk)
  have hUc : ∀ b, Cx.U (cxH (x.U σ.ob ρ) w (numb 400000 obs) (hρ ids ρ)) (r.O 0) ρ' b → x.U obF ρ2 b := by
    rintro b ⟨h1, h2⟩
    refine ⟨?_, fun ho => ?_⟩
    · rcases h1 with h1 | h1 | h1
      · exact h1.1
      · obtain ⟨k, i, hk, hb⟩ := hM b h1
        obtain ⟨o, _, ho⟩ := hh.get hk
        rcases h.fresh i _ b ho hb with h3 | h3
        · exact .inr (.inr h3)
        · exact .inr (.inl h3.1)
      · exact .inr (.inr (Nat.le_trans h.grow.size h1))
    · rcases hownF b ho with ⟨j, o, hj, h3, h4⟩ | h3
      · have hlt := (h.objs j o h3).blk_lt h4
        rcases h1 with h1 | h1 | h1
        · exact h1.2 ⟨j, o, h3, h4⟩
        · exact hoM j hj (by rw [h3]; rfl) b h4 h1
        · exact absurd h1 (by show ¬ w.heap.size ≤ b; omega)
      · exact h2 h3
  have hUM : ∀ b, x.U σ.ob ρ b → ¬ Own (numb 400000 obs) (hρ ids ρ) b := fun b hb ho => hb.2 (hh.hown_old ho)
  have hob : ∀ j o, j ∉ ids → look σ.ob j = some o → ∃ o', look obF j = some o' ∧ ∀ ty ks rows, o = .row ty ks rows → o' = .row ty ks rows := by
    intro j o hi ho
    refine ⟨o.killA ids, by rw [lF3 j hi (oldnone j (by rw [ho]; rfl)), ho]; rfl, fun ty ks rows e => ?_⟩
    subst e; rfl
  have hc : ∀ a u, ¬ Own (numb 400000 obs) (hρ ids ρ) a.block → w.cell? a = some u → w'.cell? a = some u := fun a u hb hu => hE.cell hb hu
  have apart : ∀ j oj b jc oc, j ∉ ids → look σ.ob j = some oj → blk (ρ j) = some b → look (r.O 0) jc = some oc → blk (ρ' jc) = some b → False := by
    intro j oj b jc oc hi hj hb hjc hbc
    have hlt := (h.objs j oj hj).blk_lt hb
    rcases hr.fresh jc oc b hjc hbc with h3 | h3
    · exact absurd h3 (by show ¬ w.heap.size ≤ b; omega)
    · exact hoM j hi (by rw [hj]; rfl) b hb h3.1
  have hfrF : ∀ i o b, look obF i = some o → blk (ρ2 i) = some b → x.w0.heap.size ≤ b ∨ x.Mo b := fun i o b hi hb => by
    rcases lkF i o hi with ⟨i1, rfl, a1, a2⟩ | ⟨a1, _, a3, o3, a4, _⟩
    · rw [a2] at hb
      rcases hr.fresh i1 _ b a1 hb with h3 | h3
      · exact .inl (Nat.le_trans h.grow.size h3)
      · obtain ⟨k, i2, hk, hb2⟩ := hM b h3.1
        obtain ⟨o2, _, ho2⟩ := hh.get hk
        exact h.fresh i2 _ b ho2 hb2
    · rw [a3] at hb
      exact h.fresh i _ b a4 hb
  have hX : ∀ b, b < w.heap.size → Xo (x.U σ.ob ρ) σ.ob ρ b → Xo (x.U obF ρ2) obF ρ2 b ∧ ¬ Own (numb 400000 obs) (hρ ids ρ) b := fun b _ hb => ⟨x.xo hfrF hb, fun ho => hb.2 (hh.hown_old ho)⟩
  refine ⟨ρ2, ⟨fun t V' hV => ?_, fun j o hj => ?_, fun i j oi oj b hi hj hbi hbj => ?_, fun i o b hi hb => ?_, h.grow.trans hE fun b hb => ?_, h.defers, fun j v hv => ?_⟩, ?_⟩
  · simp only [look_mapV, Option.map_eq_some_iff] at hV
    obtain ⟨V, hV, rfl⟩ := hV
    exact VRel.killA ids _ hU hUM hob hρs hoM hc hX (h.slots t V hV)
  · rcases lkF j o hj with ⟨i, rfl, h1, h2⟩ | ⟨h1, h1', h3, o3, h4, rfl⟩
    · rw [h2]
      have hor := hr.objs i _ h1
      rcases Rs.O_row r 0 _ _ h1 with ⟨ty, ks, rows, rfl, _⟩ | ⟨bs, rfl, _⟩
      · exact ORel.mo (o := .row ty ks rows) hor hUc
      · exact ORel.mo (o := .box bs) hor hUc
    · rw [h3]
      have hor := h.objs j o3 h4
      exact ORel.killA ids _ hU hUM hob hρs hoM hc hX hor fun b hb => hE.block b (hor.blk_lt hb) (hoM j h1 (by rw [h4]; rfl) b hb)
  · rcases lkF i oi hi with ⟨i1, rfl, a1, a2⟩ | ⟨a1, _, a3, o3, a4, _⟩ <;> rcases lkF j oj hj with ⟨j1, rfl, b1, b2⟩ | ⟨b1, _, b3, o4, b4, _⟩
    · rw [a2] at hbi; rw [b2] at hbj
      rw [hr.sep i1 j1 _ _ b a1 b1 hbi hbj]
    · rw [a2] at hbi; rw [b3] at hbj
      exact (apart j _ b i1 _ b1 b4 hbj a1 hbi).elim
    · rw [a3] at hbi; rw [b2] at hbj
      exact (apart i _ b j1 _ a1 a4 hbi b1 hbj).elim
    · rw [a3] at hbi; rw [b3] at hbj
      exact h.sep i j _ _ b a4 b4 hbi hbj
  · exact hfrF i o b hi hb
  · obtain ⟨k, i2, hk, hb2⟩ := hM b hb
    obtain ⟨o2, _, ho2⟩ := hh.get hk
    exact (h.fresh i2 _ b ho2 hb2).symm
  · obtain ⟨f1, f2, f3⟩ := h.fix j v hv
    obtain ⟨o, ho⟩ := Option.isSome_iff_exists.1 f2
    have hj : j ∉ ids := fun hj => by
      have : j < 500000 := Nat.le_of_ble_eq_true (List.all_eq_true.1 hlo j hj)
      omega
    obtain ⟨o', ho', _⟩ := hob j o hj ho
    exact ⟨f1, by rw [show look _ j = some o' from ho']; rfl, by rw [hρs j hj f2]; exact f3⟩
  · refine RsV_shift (U0 := Cx.U (cxH (x.U σ.ob ρ) w (numb 400000 obs) (hρ ids ρ)) (r.O 0) ρ') (ob0 := r.O 0) (ρ0 := ρ') d (fun j hj => ?_) r v (fun ks rows u _ hr' => hr'.mono (fun b _ => hUc b) fun _ _ _ h => h) ?_
    · obtain ⟨o, ho⟩ := Option.isSome_iff_exists.1 hj
      have hq : look (r.O d) (j + d) = some o := by rw [hn, ho]
      exact ⟨by rw [show look _ (j + d) = some o from lF2 (j + d) o hq]; rfl, hρn j hj⟩
    · exact hv
end call
end Go.Vq
