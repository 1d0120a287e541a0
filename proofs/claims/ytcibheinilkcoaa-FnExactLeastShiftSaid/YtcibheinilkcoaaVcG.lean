/- Part G of the small logic: a new object; an object that changes. No conditions. -/
import Derived.Test.YtcibheinilkcoaaVcF
namespace Go.Vq
open Go.RowKit

def Sc.kill (all : Bool) (id : Nat) : Sc → Sc
  | .vw i ks rows => if i = id then .any else .vw i ks rows
  | .vp i cs => if i = id then .any else .vp i cs
  | .root i => if all then (if i = id then .any else .root i) else .root i
  | .bx i o => if all then (if i = id then .any else .bx i o) else .bx i o
  | .ep i j o => if all then (if i = id then .any else .ep i j o) else .ep i j o
  | .fv i n => if i = id then .any else .fv i n
  | s => s
def V.kill (all : Bool) (id : Nat) : V → V
  | .one s => .one (s.kill all id)
  | .agg ss => .agg (ss.map (Sc.kill all id))
  | .tup ps => .tup (ps.map fun p => (p.1, p.2.map (Sc.kill all id)))
def Ob.kill (all : Bool) (id : Nat) : Ob → Ob
  | .row ty ks rows => .row ty ks rows
  | .box ss => .box (ss.map (Sc.kill all id))
def mapV {β : Type} (f : β → β) : List (Nat × β) → List (Nat × β)
  | [] => []
  | (k, x) :: r => (k, f x) :: mapV f r
theorem look_mapV {β : Type} (f : β → β) (l : List (Nat × β)) (t : Nat) : look (mapV f l) t = (look l t).map f := by
  induction l with
  | nil => rfl
  | cons p r ih => obtain ⟨k, y⟩ := p; simp only [mapV, look]; split <;> simp [ih]
def upd (ρ : Nat → Value) (id : Nat) (v : Value) : Nat → Value := fun j => if j = id then v else ρ j

theorem All2.map_right {α β γ : Type} {R : α → β → Prop} {R' : α → γ → Prop} {l : List α} {m : List β} (f : β → γ) (h : All2 R l m) (hr : ∀ x ∈ l, ∀ y ∈ m, R x y → R' x (f y)) : All2 R' l (m.map f) := by
  refine ⟨by simp [h.1], fun j x z hx hz => ?_⟩
  simp only [List.getElem?_map, Option.map_eq_some_iff] at hz
  obtain ⟨y, hy, rfl⟩ := hz
  exact hr x (List.mem_of_getElem? hx) y (List.mem_of_getElem? hy) (h.2 j x y hx hy)

section kill
variable {w w' : World} {U U' : Nat → Prop} {ob ob' : List (Nat × Ob)} {ρ ρ' : Nat → Value} (id : Nat) (all : Bool) (B : Option Nat)
  (hU : ∀ b, b < w.heap.size → U b → U' b) (hUB : ∀ b, U b → some b ≠ B)
  (hob : ∀ j, j ≠ id → ∀ o, look ob j = some o → ∃ o', look ob' j = some o' ∧ ∀ ty ks rows, o = .row ty ks rows → o' = .row ty ks rows) (hρ : ∀ j, j ≠ id → ρ' j = ρ j)
  (hoB : ∀ j, j ≠ id → IsRow ob j → ∀ b, blk (ρ j) = some b → some b ≠ B)
  (hc : ∀ a u, some a.block ≠ B → w.cell? a = some u → w'.cell? a = some u)
  (hX : ∀ b, b < w.heap.size → Xo U ob ρ b → Xo U' ob' ρ' b ∧ some b ≠ B)
  (hid : all = false → ρ' id = ρ id ∧ ∀ o, look ob id = some o → (∃ o', look ob' id = some o') ∧ ∀ ty ks rows, o = .row ty ks rows → ∃ rows', look ob' id = some (.row ty ks rows'))
include hU hUB hob hρ hoB hc hX hid
theorem SRel.kill {v : Value} {s : Sc} (h : SRel w U ob ρ v s) : SRel w' U' ob' ρ' v (s.kill all id) := by
  have far : ∀ {s : Sc}, SRel w U ob ρ v s → (∀ j, s.uses j → j ≠ id) → SRel w' U' ob' ρ' v s := fun h hu => h.step (fun j => j ≠ id) B hU hUB hob hρ hoB hc hX hu
  cases s with
  | vw i ks rows => simp only [Sc.kill]; split; · trivial
                    · rename_i hi; exact far h (fun j hj => hj ▸ hi)
  | vp i cs => simp only [Sc.kill]; split; · trivial
               · rename_i hi; exact far h (fun j hj => hj ▸ hi)
  | root i =>
    by_cases hi : i = id
    · subst hi
      cases all with
      | true => simp [Sc.kill, SRel]
      | false =>
        obtain ⟨e1, e2⟩ := hid rfl
        obtain ⟨h1, h2⟩ := h
        obtain ⟨o, ho⟩ := Option.isSome_iff_exists.1 h2
        obtain ⟨⟨o', ho'⟩, _⟩ := e2 o ho
        exact ⟨by rw [e1]; exact h1, by simp [ho']⟩
    · have := far h (fun j hj => hj ▸ hi)
      simp only [Sc.kill, hi, if_false, ite_self]; exact this
  | bx i off =>
    by_cases hi : i = id
    · subst hi
      cases all with
      | true => simp [Sc.kill, SRel]
      | false =>
        obtain ⟨e1, e2⟩ := hid rfl
        obtain ⟨b, h1, h2, h3⟩ := h
        obtain ⟨o, ho⟩ := Option.isSome_iff_exists.1 h3
        obtain ⟨⟨o', ho'⟩, _⟩ := e2 o ho
        exact ⟨b, by rw [e1]; exact h1, h2, by simp [ho']⟩
    · have := far h (fun j hj => hj ▸ hi)
      simp only [Sc.kill, hi, if_false, ite_self]; exact this
  | ep i j off =>
    by_cases hi : i = id
    · subst hi
      cases all with
      | true => simp [Sc.kill, SRel]
      | false =>
        obtain ⟨e1, e2⟩ := hid rfl
        obtain ⟨g, n, cap, ty, ks, rows, h1, h2, h3⟩ := h
        obtain ⟨rows', h4⟩ := (e2 _ h1).2 _ _ _ rfl
        exact ⟨g, n, cap, ty, ks, rows', h4, by rw [e1]; exact h2, h3⟩
    · have := far h (fun j hj => hj ▸ hi)
      simp only [Sc.kill, hi, if_false, ite_self]; exact this
  | fv i n =>
    by_cases hi : i = id
    · simp [Sc.kill, hi, SRel]
    · have := far h (fun j hj => hj ▸ hi)
      simp only [Sc.kill, hi, if_false]; exact this
  | any => trivial
  | und => exact h
  | int k n => exact h
  | bool b => exact h
  | ro ks rows => exact far h (fun j hj => hj.elim)
  | nil => exact h
  | rp cs => exact far h (fun j hj => hj.elim)
  | fn f caps => exact far h (fun j hj => hj.elim)
  | xr ks rows => exact far h (fun j hj => hj.elim)
  | xp cs => exact far h (fun j hj => hj.elim)
theorem VRel.kill {v : Value} {V : V} (h : VRel w U ob ρ v V) : VRel w' U' ob' ρ' v (V.kill all id) := by
  cases V with
  | one s => exact SRel.kill id all B hU hUB hob hρ hoB hc hX hid h
  | agg ss =>
    obtain ⟨vs, rfl, h⟩ := h
    exact ⟨vs, rfl, h.map_right _ fun _ _ _ _ h => SRel.kill id all B hU hUB hob hρ hoB hc hX hid h⟩
  | tup ps =>
    obtain ⟨vs, rfl, h⟩ := h
    refine ⟨vs, rfl, h.map_right _ fun u _ p _ hp => ?_⟩
    obtain ⟨t, ss⟩ := p
    cases t with
    | true =>
      obtain ⟨us, rfl, h'⟩ := PRel.agg_iff.1 hp
      exact PRel.agg_iff.2 ⟨us, rfl, h'.map_right _ fun _ _ _ _ h => SRel.kill id all B hU hUB hob hρ hoB hc hX hid h⟩
    | false =>
      obtain ⟨s, rfl, h'⟩ := hp.one_inv
      exact SRel.kill id all B hU hUB hob hρ hoB hc hX hid h'
theorem ORel.kill {v : Value} {o : Ob} (h : ORel w U ob ρ v o) (hB : ∀ b, blk v = some b → w'.heap[b]? = w.heap[b]?) : ORel w' U' ob' ρ' v (o.kill all id) := by
  cases o with
  | row ty ks rows => exact ORel.step_row B hU hUB hc h hB
  | box ss =>
    obtain ⟨b, cs, ty, rfl, h1, h2⟩ := h
    refine ⟨b, cs, ty, rfl, by rw [hB b rfl]; exact h1, h2.map_right _ fun u _ s _ hs => ⟨hs.1, ?_⟩⟩
    exact SRel.kill id all B hU hUB hob hρ hoB hc hX hid hs.2
end kill

section
variable {x : Cx} {σ : St} {ρ : Nat → Value} {a : Act} {w w' : World}

theorem Rel.U_step {ob' : List (Nat × Ob)} {id : Nat} {v' : Value} (hk : ∀ j, j ≠ id → (look ob' j).isSome → (look σ.ob j).isSome)
    (hnew : ∀ b, blk v' = some b → w.heap.size ≤ b ∨ (blk (ρ id) = some b ∧ (look σ.ob id).isSome)) : ∀ b, b < w.heap.size → x.U σ.ob ρ b → x.U ob' (upd ρ id v') b := by
  intro b hb ⟨h1, h2⟩
  refine ⟨h1, fun ⟨j, o, hj, hbj⟩ => h2 ?_⟩
  by_cases hji : j = id
  · subst hji
    simp only [upd, if_true] at hbj
    rcases hnew b hbj with hlt | ⟨h3, h4⟩
    · omega
    · obtain ⟨o', ho'⟩ := Option.isSome_iff_exists.1 h4
      exact ⟨j, o', ho', h3⟩
  · simp only [upd, hji, if_false] at hbj
    obtain ⟨o', ho'⟩ := Option.isSome_iff_exists.1 (hk j hji (by simp [hj]))
    exact ⟨j, o', ho', hbj⟩

/-- an object changes (or comes): what hangs on it is forgotten as is said -/
theorem Rel.change (h : Rel x σ ρ a w) (id : Nat) (all : Bool) (o' : Ob) (v' : Value) (B : Option Nat) (hE : Ext w w' (fun b => some b = B))
    (hB : ∀ g, B = some g → blk (ρ id) = some g ∧ (look σ.ob id).isSome)
    (hid : all = false → v' = ρ id ∧ ∃ ty ks rows rows', look σ.ob id = some (.row ty ks rows) ∧ o' = .row ty ks rows')
    (hnew : ∀ b, blk v' = some b → w.heap.size ≤ b ∨ (blk (ρ id) = some b ∧ (look σ.ob id).isSome))
    (hO : ORel w' (x.U ((id, o') :: mapV (Ob.kill all id) σ.ob) (upd ρ id v')) ((id, o') :: mapV (Ob.kill all id) σ.ob) (upd ρ id v') v' o') (hF : all = true → x.F id = none) :
    Rel x ⟨mapV (V.kill all id) σ.sl, (id, o') :: mapV (Ob.kill all id) σ.ob⟩ (upd ρ id v') a w' := by
  have hlook : ∀ j, j ≠ id → look ((id, o') :: mapV (Ob.kill all id) σ.ob) j = (look σ.ob j).map (Ob.kill all id) := fun j hj => by
    rw [look_cons, if_neg (Ne.symm hj), look_mapV]
  have hlid : look ((id, o') :: mapV (Ob.kill all id) σ.ob) id = some o' := by simp [look_cons]
  have hU := Rel.U_step (x := x) (σ := σ) (ρ := ρ) (w := w) (ob' := (id, o') :: mapV (Ob.kill all id) σ.ob) (id := id) (v' := v') (fun j hj hs => by rw [hlook j hj] at hs; simpa using hs) hnew
  have hUB : ∀ b, x.U σ.ob ρ b → some b ≠ B := fun b hb e => by
    obtain ⟨h1, h2⟩ := hB b e.symm
    obtain ⟨o, ho⟩ := Option.isSome_iff_exists.1 h2
    exact hb.2 ⟨id, o, ho, h1⟩
  have hob : ∀ j, j ≠ id → ∀ o, look σ.ob j = some o → ∃ o'', look ((id, o') :: mapV (Ob.kill all id) σ.ob) j = some o'' ∧ ∀ ty ks rows, o = .row ty ks rows → o'' = .row ty ks rows := by
    intro j hj o ho
    refine ⟨o.kill all id, by rw [hlook j hj, ho]; rfl, fun ty ks rows e => by subst e; rfl⟩
  have hρ : ∀ j, j ≠ id → upd ρ id v' j = ρ j := fun j hj => by simp [upd, hj]
  have hρid : upd ρ id v' id = v' := by simp [upd]
  have hoB' : ∀ j, j ≠ id → (look σ.ob j).isSome → ∀ b, blk (ρ j) = some b → some b ≠ B := fun j hj hs b hb e => by
    obtain ⟨h1, h2⟩ := hB b e.symm
    obtain ⟨o, ho⟩ := Option.isSome_iff_exists.1 hs
    obtain ⟨o2, ho2⟩ := Option.isSome_iff_exists.1 h2
    exact hj (h.sep j id o o2 b ho ho2 hb h1)
  have hoB : ∀ j, j ≠ id → IsRow σ.ob j → ∀ b, blk (ρ j) = some b → some b ≠ B := fun j hj hs => hoB' j hj hs.isSome
  have hc : ∀ a u, some a.block ≠ B → w.cell? a = some u → w'.cell? a = some u := fun a u hb hu => hE.cell hb hu
  have hold : ∀ j o, j ≠ id → look ((id, o') :: mapV (Ob.kill all id) σ.ob) j = some o → ∃ o, look σ.ob j = some o := fun j o hj ho => by
    rw [hlook j hj] at ho
    simp only [Option.map_eq_some_iff] at ho
    obtain ⟨o, ho, _⟩ := ho
    exact ⟨o, ho⟩
  have hfr : ∀ i o'' b, look ((id, o') :: mapV (Ob.kill all id) σ.ob) i = some o'' → blk (upd ρ id v' i) = some b → x.w0.heap.size ≤ b ∨ x.Mo b := fun i o'' b hi hb => by
    by_cases hi' : i = id
    · subst hi'
      rw [hρid] at hb
      rcases hnew b hb with hlt | ⟨h3, h4⟩
      · exact .inl (Nat.le_trans h.grow.size hlt)
      · obtain ⟨o2, ho2⟩ := Option.isSome_iff_exists.1 h4
        exact h.fresh i o2 b ho2 h3
    · rw [hρ i hi'] at hb
      obtain ⟨o, ho⟩ := hold i o'' hi' hi
      exact h.fresh i o b ho hb
  have hX : ∀ b, b < w.heap.size → Xo (x.U σ.ob ρ) σ.ob ρ b → Xo (x.U ((id, o') :: mapV (Ob.kill all id) σ.ob) (upd ρ id v')) ((id, o') :: mapV (Ob.kill all id) σ.ob) (upd ρ id v') b ∧ some b ≠ B := fun b _ hb => ⟨x.xo hfr hb, fun e => by
    obtain ⟨h1, h2⟩ := hB b e.symm
    obtain ⟨o, ho⟩ := Option.isSome_iff_exists.1 h2
    exact hb.2 ⟨id, o, ho, h1⟩⟩
  have hid' : all = false → upd ρ id v' id = ρ id ∧ ∀ o, look σ.ob id = some o → (∃ o'', look ((id, o') :: mapV (Ob.kill all id) σ.ob) id = some o'') ∧ ∀ ty ks rows, o = .row ty ks rows → ∃ rows', look ((id, o') :: mapV (Ob.kill all id) σ.ob) id = some (.row ty ks rows') := by
    intro ha
    obtain ⟨e1, ty, ks, rows, rows', e2, e3⟩ := hid ha
    refine ⟨by rw [hρid, e1], fun o ho => ⟨⟨o', hlid⟩, fun ty2 ks2 rows2 e => ?_⟩⟩
    rw [e2] at ho; cases ho
    cases e
    exact ⟨rows', by rw [hlid, e3]⟩
  refine ⟨fun t V' hV => ?_, fun j o'' hj => ?_, fun i j oi oj b hi hj hbi hbj => ?_, fun i o'' b hi hb => ?_, ?_, h.defers, fun j v hv => ?_⟩
  rotate_left 5
  · obtain ⟨f1, f2, f3⟩ := h.fix j v hv
    by_cases hji : j = id
    · subst hji
      refine ⟨f1, by rw [hlid]; rfl, ?_⟩
      rw [hρid]
      cases all with
      | true => rw [hF rfl] at hv; cases hv
      | false => rw [(hid rfl).1]; exact f3
    · refine ⟨f1, ?_, by rw [hρ j hji]; exact f3⟩
      dsimp only
      rw [hlook j hji]; simpa using f2
  · simp only [look_mapV, Option.map_eq_some_iff] at hV
    obtain ⟨V, hV, rfl⟩ := hV
    exact VRel.kill id all B hU hUB hob hρ hoB hc hX hid' (h.slots t V hV)
  · by_cases hji : j = id
    · subst hji
      rw [hlid] at hj; cases hj
      rw [hρid]; exact hO
    · dsimp only at hj
      rw [hlook j hji] at hj
      simp only [Option.map_eq_some_iff] at hj
      obtain ⟨o, ho, rfl⟩ := hj
      rw [hρ j hji]
      have hor := h.objs j o ho
      exact ORel.kill id all B hU hUB hob hρ hoB hc hX hid' hor (fun b hb => hE.block b (hor.blk_lt hb) (hoB' j hji (by simp [ho]) b hb))
  · have old : ∀ j o, j ≠ id → look ((id, o') :: mapV (Ob.kill all id) σ.ob) j = some o → ∃ o, look σ.ob j = some o := fun j o hj ho => by
      rw [hlook j hj] at ho
      simp only [Option.map_eq_some_iff] at ho
      obtain ⟨o, ho, _⟩ := ho
      exact ⟨o, ho⟩
    have cross : ∀ j o, j ≠ id → look ((id, o') :: mapV (Ob.kill all id) σ.ob) j = some o → blk (ρ j) = some b → blk v' = some b → False := fun j o hj ho hbj hb => by
      obtain ⟨o, ho⟩ := old j o hj ho
      rcases hnew b hb with hlt | ⟨h3, h4⟩
      · have := (h.objs j o ho).blk_lt hbj; omega
      · obtain ⟨o2, ho2⟩ := Option.isSome_iff_exists.1 h4
        exact hj (h.sep j id o o2 b ho ho2 hbj h3)
    by_cases hi' : i = id
    · by_cases hj' : j = id
      · rw [hi', hj']
      · subst hi'
        rw [hρid] at hbi; rw [hρ j hj'] at hbj
        exact (cross j oj hj' hj hbj hbi).elim
    · by_cases hj' : j = id
      · subst hj'
        rw [hρid] at hbj; rw [hρ i hi'] at hbi
        exact (cross i oi hi' hi hbi hbj).elim
      · rw [hρ i hi'] at hbi; rw [hρ j hj'] at hbj
        obtain ⟨o1, h1⟩ := old i oi hi' hi
        obtain ⟨o2, h2⟩ := old j oj hj' hj
        exact h.sep i j o1 o2 b h1 h2 hbi hbj
  · exact hfr i o'' b hi hb
  · refine h.grow.trans hE fun b hb => ?_
    obtain ⟨h1, h2⟩ := hB b hb.symm
    obtain ⟨o2, ho2⟩ := Option.isSome_iff_exists.1 h2
    exact (h.fresh id o2 b ho2 h1).symm

theorem Rel.fr_new (h : Rel x σ ρ a w) {id : Nat} {o' : Ob} {v' : Value} (hnew : ∀ b, blk v' = some b → w.heap.size ≤ b) : ∀ i o b, look ((id, o') :: σ.ob) i = some o → blk (upd ρ id v' i) = some b → x.w0.heap.size ≤ b ∨ x.Mo b := fun i o b hi hb => by
  by_cases hi' : i = id
  · subst hi'; simp only [upd, if_true] at hb; exact .inl (Nat.le_trans h.grow.size (hnew b hb))
  · simp only [upd, hi', if_false] at hb
    rw [look_cons, if_neg (Ne.symm hi')] at hi
    exact h.fresh i o b hi hb
/-- a new object -/
theorem Rel.new (h : Rel x σ ρ a w) {id : Nat} (hno : look σ.ob id = none) {o' : Ob} {v' : Value} (hE : Ext w w' NoM)
    (hnew : ∀ b, blk v' = some b → w.heap.size ≤ b)
    (hO : ORel w' (x.U ((id, o') :: σ.ob) (upd ρ id v')) ((id, o') :: σ.ob) (upd ρ id v') v' o') :
    Rel x ⟨σ.sl, (id, o') :: σ.ob⟩ (upd ρ id v') a w' := by
  have hlook : ∀ j, j ≠ id → look ((id, o') :: σ.ob) j = look σ.ob j := fun j hj => by rw [look_cons, if_neg (Ne.symm hj)]
  have hlid : look ((id, o') :: σ.ob) id = some o' := by simp [look_cons]
  have hU := Rel.U_step (x := x) (σ := σ) (ρ := ρ) (w := w) (ob' := (id, o') :: σ.ob) (id := id) (v' := v') (fun j hj hs => by rwa [hlook j hj] at hs) (fun b hb => .inl (hnew b hb))
  have hUn : ∀ b, x.U σ.ob ρ b → some b ≠ (none : Option Nat) := fun b _ e => by cases e
  have hon : ∀ j, j ≠ id → IsRow σ.ob j → ∀ b, blk (ρ j) = some b → some b ≠ (none : Option Nat) := fun _ _ _ _ _ e => by cases e
  have hc : ∀ a u, some a.block ≠ (none : Option Nat) → w.cell? a = some u → w'.cell? a = some u := fun a u _ hu => hE.cell (fun f => f) hu
  have hob : ∀ j, j ≠ id → ∀ o, look σ.ob j = some o → ∃ o'', look ((id, o') :: σ.ob) j = some o'' ∧ ∀ ty ks rows, o = .row ty ks rows → o'' = .row ty ks rows := fun j hj o ho => ⟨o, by rw [hlook j hj, ho], fun _ _ _ e => e⟩
  have hρ : ∀ j, j ≠ id → upd ρ id v' j = ρ j := fun j hj => by simp [upd, hj]
  have hρid : upd ρ id v' id = v' := by simp [upd]
  have hne : ∀ j, (look σ.ob j).isSome → j ≠ id := fun j hj e => by subst e; simp [hno] at hj
  have hfr : ∀ i o'' b, look ((id, o') :: σ.ob) i = some o'' → blk (upd ρ id v' i) = some b → x.w0.heap.size ≤ b ∨ x.Mo b := fun i o'' b hi hb => by
    by_cases hi' : i = id
    · subst hi'; rw [hρid] at hb; exact .inl (Nat.le_trans h.grow.size (hnew b hb))
    · rw [hρ i hi'] at hb
      rw [hlook i hi'] at hi
      exact h.fresh i o'' b hi hb
  have hX : ∀ b, b < w.heap.size → Xo (x.U σ.ob ρ) σ.ob ρ b → Xo (x.U ((id, o') :: σ.ob) (upd ρ id v')) ((id, o') :: σ.ob) (upd ρ id v') b ∧ some b ≠ none := fun b _ hb => ⟨x.xo hfr hb, fun e => by cases e⟩
  refine ⟨fun t V hV => ?_, fun j o'' hj => ?_, fun i j oi oj b hi hj hbi hbj => ?_, fun i o'' b hi hb => hfr i o'' b hi hb, h.grow.trans hE (fun _ f => f.elim), h.defers, fun j v hv => ?_⟩
  rotate_left 3
  · obtain ⟨f1, f2, f3⟩ := h.fix j v hv
    have hji := hne j f2
    refine ⟨f1, ?_, by rw [hρ j hji]; exact f3⟩
    dsimp only
    rw [hlook j hji]; exact f2
  · have hv := h.slots t V hV
    exact hv.step (fun j => j ≠ id) none hU hUn hob hρ hon hc hX (fun j hj => hne j (hv.used hj))
  · by_cases hji : j = id
    · subst hji; rw [hlid] at hj; cases hj; rw [hρid]; exact hO
    · dsimp only at hj
      rw [hlook j hji] at hj
      rw [hρ j hji]
      have hor := h.objs j o'' hj
      have hB : ∀ b, blk (ρ j) = some b → w'.heap[b]? = w.heap[b]? := fun b hb => hE.block b (hor.blk_lt hb) (fun f => f)
      cases o'' with
      | row ty ks rows => exact ORel.step_row none hU hUn hc hor hB
      | box ss => exact ORel.step_box (fun j => j ≠ id) none hU hUn hob hρ hon hc hX hor (fun s hs j hj => hne j (hor.used ⟨s, hs, hj⟩)) hB
  · have cross : ∀ j o, j ≠ id → look ((id, o') :: σ.ob) j = some o → blk (ρ j) = some b → blk v' = some b → False := fun j o hj ho hbj hb => by
      rw [hlook j hj] at ho
      have := (h.objs j o ho).blk_lt hbj
      have := hnew b hb
      omega
    by_cases hi' : i = id
    · by_cases hj' : j = id
      · rw [hi', hj']
      · subst hi'; rw [hρid] at hbi; rw [hρ j hj'] at hbj
        exact (cross j oj hj' hj hbj hbi).elim
    · by_cases hj' : j = id
      · subst hj'; rw [hρid] at hbj; rw [hρ i hi'] at hbi
        exact (cross i oi hi' hi hbi hbj).elim
      · rw [hρ i hi'] at hbi; rw [hρ j hj'] at hbj
        dsimp only at hi hj
        rw [hlook i hi'] at hi; rw [hlook j hj'] at hj
        exact h.sep i j oi oj b hi hj hbi hbj
/-- a box that changes: nothing else hangs on what it holds -/
theorem Rel.setBox (h : Rel x σ ρ a w) {id : Nat} {ss ss' : List Sc} (hid : look σ.ob id = some (.box ss)) {g : Nat} (hg : blk (ρ id) = some g) (hE : Ext w w' (fun b => some b = some g))
    (hO : ORel w' (x.U ((id, .box ss') :: σ.ob) ρ) ((id, .box ss') :: σ.ob) ρ (ρ id) (.box ss')) :
    Rel x ⟨σ.sl, (id, .box ss') :: σ.ob⟩ ρ a w' := by
  have hlook : ∀ j, j ≠ id → look ((id, Ob.box ss') :: σ.ob) j = look σ.ob j := fun j hj => by rw [look_cons, if_neg (Ne.symm hj)]
  have hlid : look ((id, Ob.box ss') :: σ.ob) id = some (.box ss') := by simp [look_cons]
  have hsome : ∀ j, (look ((id, Ob.box ss') :: σ.ob) j).isSome ↔ (look σ.ob j).isSome := fun j => by
    by_cases hj : j = id
    · subst hj; simp [hlid, hid]
    · rw [hlook j hj]
  have hown : ∀ b, Own ((id, Ob.box ss') :: σ.ob) ρ b ↔ Own σ.ob ρ b := fun b => by
    constructor
    · rintro ⟨j, o, hj, hb⟩
      obtain ⟨o', ho'⟩ := Option.isSome_iff_exists.1 ((hsome j).1 (by simp [hj]))
      exact ⟨j, o', ho', hb⟩
    · rintro ⟨j, o, hj, hb⟩
      obtain ⟨o', ho'⟩ := Option.isSome_iff_exists.1 ((hsome j).2 (by simp [hj]))
      exact ⟨j, o', ho', hb⟩
  have hU : ∀ b, b < w.heap.size → x.U σ.ob ρ b → x.U ((id, .box ss') :: σ.ob) ρ b := fun b _ hb => ⟨hb.1, fun ho => hb.2 ((hown b).1 ho)⟩
  have hUB : ∀ b, x.U σ.ob ρ b → some b ≠ some g := fun b hb e => by cases e; exact hb.2 ⟨id, _, hid, hg⟩
  have hob : ∀ j, True → ∀ o, look σ.ob j = some o → ∃ o', look ((id, Ob.box ss') :: σ.ob) j = some o' ∧ ∀ ty ks rows, o = .row ty ks rows → o' = .row ty ks rows := fun j _ o ho => by
    by_cases hj : j = id
    · subst hj; rw [hid] at ho; cases ho; exact ⟨_, hlid, fun _ _ _ e => by cases e⟩
    · exact ⟨o, by rw [hlook j hj, ho], fun _ _ _ e => e⟩
  have hoB : ∀ j, True → IsRow σ.ob j → ∀ b, blk (ρ j) = some b → some b ≠ some g := fun j _ ⟨ty, ks, rows, hj⟩ b hb e => by
    cases e
    have := h.sep j id _ _ g hj hid hb hg
    subst this; rw [hid] at hj; cases hj
  have hc : ∀ a u, some a.block ≠ some g → w.cell? a = some u → w'.cell? a = some u := fun a u hb hu => hE.cell hb hu
  have oldlook : ∀ j o, look ((id, Ob.box ss') :: σ.ob) j = some o → ∃ o', look σ.ob j = some o' := fun j o ho => Option.isSome_iff_exists.1 ((hsome j).1 (by simp [ho]))
  have hX : ∀ b, b < w.heap.size → Xo (x.U σ.ob ρ) σ.ob ρ b → Xo (x.U ((id, .box ss') :: σ.ob) ρ) ((id, .box ss') :: σ.ob) ρ b ∧ some b ≠ some g := fun b _ hb => ⟨x.xo (fun i o b hi hb => by obtain ⟨o1, h1⟩ := oldlook i o hi; exact h.fresh i o1 b h1 hb) hb, fun e => by cases e; exact hb.2 ⟨id, _, hid, hg⟩⟩
  refine ⟨fun t V hV => (h.slots t V hV).step (fun _ => True) (some g) hU hUB hob (fun _ _ => rfl) hoB hc hX (fun _ _ => trivial), fun j o ho => ?_, fun i j oi oj b hi hj hbi hbj => ?_, fun i o b hi hb => ?_, ?_, h.defers, fun j v hv => ?_⟩
  rotate_left 4
  · obtain ⟨f1, f2, f3⟩ := h.fix j v hv
    exact ⟨f1, (hsome j).2 f2, f3⟩
  · by_cases hj : j = id
    · subst hj; rw [hlid] at ho; cases ho; exact hO
    · dsimp only at ho
      rw [hlook j hj] at ho
      have hor := h.objs j o ho
      have hB : ∀ b, blk (ρ j) = some b → w'.heap[b]? = w.heap[b]? := fun b hb => hE.block b (hor.blk_lt hb) fun e => by
        cases e; exact hj (h.sep j id _ _ g ho hid hb hg)
      cases o with
      | row ty ks rows => exact ORel.step_row (some g) hU hUB hc hor hB
      | box ss2 => exact ORel.step_box (fun _ => True) (some g) hU hUB hob (fun _ _ => rfl) hoB hc hX hor (fun _ _ _ _ => trivial) hB
  · obtain ⟨o1, h1⟩ := oldlook i oi hi
    obtain ⟨o2, h2⟩ := oldlook j oj hj
    exact h.sep i j o1 o2 b h1 h2 hbi hbj
  · obtain ⟨o1, h1⟩ := oldlook i o hi
    exact h.fresh i o1 b h1 hb
  · refine h.grow.trans hE fun b hb => ?_
    cases hb
    exact (h.fresh id _ g hid hg).symm
end
end Go.Vq
