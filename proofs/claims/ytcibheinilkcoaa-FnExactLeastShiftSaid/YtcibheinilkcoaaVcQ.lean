/- Part Q of the small logic: code, loops, whole functions. No conditions. -/
import Derived.Test.YtcibheinilkcoaaVcPc
namespace Go.Vq
open Go.RowKit

inductive AEx where
  | normal
  | exit (id : Nat)
  | ret

section
variable {P : Program} {x : Cx} {σ τ : St} {ρ : Nat → Value} {a : Act} {w : World}
/-! ### other numbers for the objects -/
def swp (i j n : Nat) : Nat := if n = i then j else if n = j then i else n
theorem swp_swp (i j n : Nat) : swp i j (swp i j n) = n := by
  unfold swp
  by_cases h1 : n = i
  · subst h1; by_cases h2 : j = n <;> simp [h2]
  · by_cases h2 : n = j
    · subst h2; simp [h1]
    · simp [h1, h2]
def Sc.ren (π : Nat → Nat) : Sc → Sc
  | .vw i ks rows => .vw (π i) ks rows
  | .root i => .root (π i)
  | .bx i o => .bx (π i) o
  | .vp i cs => .vp (π i) cs
  | .ep i k o => .ep (π i) k o
  | .fv i n => .fv (π i) n
  | s => s
def V.ren (π : Nat → Nat) : V → V
  | .one s => .one (s.ren π)
  | .agg ss => .agg (ss.map (Sc.ren π))
  | .tup ps => .tup (ps.map fun p => (p.1, p.2.map (Sc.ren π)))
def Ob.ren (π : Nat → Nat) : Ob → Ob
  | .row ty ks rows => .row ty ks rows
  | .box ss => .box (ss.map (Sc.ren π))
def renO (π : Nat → Nat) : List (Nat × Ob) → List (Nat × Ob)
  | [] => []
  | (k, o) :: r => (π k, o.ren π) :: renO π r
def St.ren (π : Nat → Nat) (σ : St) : St := ⟨mapV (V.ren π) σ.sl, renO π σ.ob⟩
def St.swaps : List (Nat × Nat) → St → St
  | [], σ => σ
  | (i, j) :: r, σ => St.swaps r (σ.ren (swp i j))
def swOk (ps : List (Nat × Nat)) : Bool := ps.all fun p => Nat.blt p.1 500000 && Nat.blt p.2 500000
def St.le (σ τ : St) : Prop := ∃ ps, swOk ps = true ∧ (St.swaps ps σ).le0 τ
theorem look_renO {π : Nat → Nat} (hπ : ∀ n, π (π n) = n) : ∀ (l : List (Nat × Ob)) (j : Nat), look (renO π l) j = (look l (π j)).map (Ob.ren π)
  | [], j => rfl
  | (k, o) :: r, j => by
    simp only [renO, look]
    by_cases h : π k = j
    · rw [if_pos h, if_pos (by rw [← h, hπ])]; rfl
    · rw [if_neg h, if_neg (fun e => h (by rw [e, hπ])), look_renO hπ r j]
theorem isRow_ren {π : Nat → Nat} (hπ : ∀ n, π (π n) = n) {l : List (Nat × Ob)} {i : Nat} (h : IsRow l i) : IsRow (renO π l) (π i) := by
  obtain ⟨ty, ks, rows, h⟩ := h
  exact ⟨ty, ks, rows, by rw [look_renO hπ, hπ, h]; rfl⟩
theorem own_ren {π : Nat → Nat} (hπ : ∀ n, π (π n) = n) {ob : List (Nat × Ob)} (b : Nat) : Own (renO π ob) (fun j => ρ (π j)) b ↔ Own ob ρ b := by
  constructor
  · rintro ⟨j, o, hj, hb⟩
    rw [look_renO hπ, Option.map_eq_some_iff] at hj
    obtain ⟨o', ho', _⟩ := hj
    exact ⟨π j, o', ho', hb⟩
  · rintro ⟨j, o, hj, hb⟩
    exact ⟨π j, o.ren π, by rw [look_renO hπ, hπ, hj]; rfl, by simp only [hπ]; exact hb⟩
theorem SRel.ren {π : Nat → Nat} (hπ : ∀ n, π (π n) = n) {U : Nat → Prop} {ob : List (Nat × Ob)} {v : Value} {s : Sc} (h : SRel w U ob ρ v s) : SRel w U (renO π ob) (fun j => ρ (π j)) v (s.ren π) := by
  have hs : ∀ i, (look ob i).isSome → (look (renO π ob) (π i)).isSome := fun i hi => by rw [look_renO hπ, hπ]; simpa using hi
  have hx : Xo U (renO π ob) (fun j => ρ (π j)) = Xo U ob ρ := by funext b; unfold Xo; rw [own_ren hπ b]
  cases s with
  | vw id ks rows => exact ⟨by simp only [hπ]; exact h.1, isRow_ren hπ h.2⟩
  | root id => exact ⟨by simp only [hπ]; exact h.1, hs _ h.2⟩
  | bx id off => obtain ⟨b, h1, h2, h3⟩ := h; exact ⟨b, by simp only [hπ]; exact h1, h2, hs _ h3⟩
  | vp id cells => obtain ⟨ad, h1, h2, h3, h4⟩ := h; exact ⟨ad, h1, by simp only [hπ]; exact h2, isRow_ren hπ h3, by simp only [hπ]; exact h4⟩
  | ep id i off => obtain ⟨g, n, cap, ty, ks, rows, h1, h2, h3⟩ := h; exact ⟨g, n, cap, ty, ks, rows, by rw [look_renO hπ, hπ, h1]; rfl, by simp only [hπ]; exact h2, h3⟩
  | fv id k => obtain ⟨g, n, cap, ty, ks, rows, h1, h2, h3⟩ := h; exact ⟨g, n, cap, ty, ks, rows, by rw [look_renO hπ, hπ, h1]; rfl, by simp only [hπ]; exact h2, h3⟩
  | any => trivial
  | und => exact h
  | int k n => exact h
  | bool b => exact h
  | ro ks rows => exact h
  | nil => exact h
  | rp cs => exact h
  | fn f caps => exact h
  | xr ks rows => simp only [Sc.ren, SRel, hx]; exact h
  | xp cs => simp only [Sc.ren, SRel, hx]; exact h
theorem All2.mapr {α β γ : Type} {R : α → β → Prop} {R' : α → γ → Prop} {l : List α} {m : List β} (f : β → γ) (h : All2 R l m) (hr : ∀ x y, R x y → R' x (f y)) : All2 R' l (m.map f) := by
  refine ⟨by simp [h.1], fun j u v hu hv => ?_⟩
  rw [List.getElem?_map, Option.map_eq_some_iff] at hv
  obtain ⟨y, hy, rfl⟩ := hv
  exact hr _ _ (h.2 j u y hu hy)
theorem VRel.ren {π : Nat → Nat} (hπ : ∀ n, π (π n) = n) {U : Nat → Prop} {ob : List (Nat × Ob)} {v : Value} {s : V} (h : VRel w U ob ρ v s) : VRel w U (renO π ob) (fun j => ρ (π j)) v (s.ren π) := by
  cases s with
  | one s => exact SRel.ren hπ h
  | agg ss => obtain ⟨vs, e, h⟩ := h; exact ⟨vs, e, h.mapr _ fun _ _ h => SRel.ren hπ h⟩
  | tup ps =>
    obtain ⟨vs, e, h⟩ := h
    refine ⟨vs, e, h.mapr _ fun u p hp => ?_⟩
    obtain ⟨t, ss⟩ := p
    cases t with
    | true =>
      obtain ⟨us, e, h⟩ := PRel.agg_iff.1 hp
      exact PRel.agg_iff.2 ⟨us, e, h.mapr _ fun _ _ h => SRel.ren hπ h⟩
    | false =>
      obtain ⟨s, rfl, h⟩ := hp.one_inv
      exact SRel.ren hπ h
theorem Rel.ren {π : Nat → Nat} (hπ : ∀ n, π (π n) = n) (hf : ∀ n, 500000 ≤ n → π n = n) (h : Rel x σ ρ a w) : Rel x (σ.ren π) (fun j => ρ (π j)) a w := by
  have hown : ∀ b, Own (renO π σ.ob) (fun j => ρ (π j)) b ↔ Own σ.ob ρ b := fun b => by
    constructor
    · rintro ⟨j, o, hj, hb⟩
      rw [look_renO hπ, Option.map_eq_some_iff] at hj
      obtain ⟨o', ho', _⟩ := hj
      exact ⟨π j, o', ho', hb⟩
    · rintro ⟨j, o, hj, hb⟩
      exact ⟨π j, o.ren π, by rw [look_renO hπ, hπ, hj]; rfl, by simp only [hπ]; exact hb⟩
  have hU : x.U (renO π σ.ob) (fun j => ρ (π j)) = x.U σ.ob ρ := by
    funext b; unfold Cx.U; rw [hown b]
  refine ⟨fun t V hV => ?_, fun j o hj => ?_, fun i j oi oj b hi hj hbi hbj => ?_, fun i o b hi hb => ?_, h.grow, h.defers, fun j v hv => ?_⟩
  · simp only [St.ren, look_mapV, Option.map_eq_some_iff] at hV ⊢
    obtain ⟨V', hV', rfl⟩ := hV
    rw [hU]
    exact VRel.ren hπ (h.slots t V' hV')
  · simp only [St.ren, look_renO hπ, Option.map_eq_some_iff] at hj ⊢
    obtain ⟨o', ho', rfl⟩ := hj
    rw [hU]
    have := h.objs _ _ ho'
    cases o' with
    | row ty ks rows => exact this
    | box ss =>
      obtain ⟨b, cs, ty, e1, e2, e3⟩ := this
      exact ⟨b, cs, ty, e1, e2, e3.mapr _ fun _ _ h => ⟨h.1, SRel.ren hπ h.2⟩⟩
  · simp only [St.ren, look_renO hπ, Option.map_eq_some_iff] at hi hj
    obtain ⟨o1, h1, _⟩ := hi
    obtain ⟨o2, h2, _⟩ := hj
    have := h.sep _ _ _ _ b h1 h2 hbi hbj
    rw [← hπ i, this, hπ]
  · simp only [St.ren, look_renO hπ, Option.map_eq_some_iff] at hi
    obtain ⟨o1, h1, _⟩ := hi
    exact h.fresh _ _ b h1 hb
  · obtain ⟨f1, f2, f3⟩ := h.fix j v hv
    refine ⟨f1, ?_, ?_⟩
    · simp only [St.ren, look_renO hπ, hf j f1]; simpa using f2
    · show ρ (π j) = v
      rw [hf j f1]; exact f3
theorem Rel.swaps : ∀ {ps : List (Nat × Nat)} {σ : St} {ρ : Nat → Value}, swOk ps = true → Rel x σ ρ a w → ∃ ρ', Rel x (St.swaps ps σ) ρ' a w
  | [], σ, ρ, _, h => ⟨ρ, h⟩
  | (i, j) :: r, σ, ρ, hp, h => by
    simp only [swOk, List.all_cons, Bool.and_eq_true, Nat.blt_eq] at hp
    exact Rel.swaps (ps := r) hp.2 (Rel.ren (swp_swp i j) (fun n hn => by unfold swp; rw [if_neg (by omega), if_neg (by omega)]) h)
theorem Rel.le (h : Rel x σ ρ a w) (hle : σ.le τ) : ∃ ρ', Rel x τ ρ' a w := by
  obtain ⟨ps, hp, hle⟩ := hle
  obtain ⟨ρ1, h1⟩ := Rel.swaps hp h
  exact h1.le0 hle
end

/-! ### code -/
/-- only these slots are kept; of each object the last that is said -/
def keepSl (l : List (Nat × V)) : List Nat → List (Nat × V)
  | [] => []
  | t :: r => match look l t with
    | some V => (t, V) :: keepSl l r
    | none => keepSl l r
def keepOb : List (Nat × Ob) → List Nat → List (Nat × Ob)
  | [], _ => []
  | (k, o) :: r, seen => match memN k seen with
    | true => keepOb r seen
    | false => (k, o) :: keepOb r (k :: seen)
def St.keep (σ : St) (ks : List Nat) : St := ⟨keepSl σ.sl ks, keepOb σ.ob []⟩
theorem look_keepSl (l : List (Nat × V)) : ∀ (ks : List Nat) (t : Nat) (V : V), look (keepSl l ks) t = some V → look l t = some V
  | [], t, V, h => by simp [keepSl, look] at h
  | k :: r, t, V, h => by
    simp only [keepSl] at h
    split at h
    · rename_i V0 h0
      simp only [look_cons] at h
      split at h
      · rename_i hk; subst hk; cases h; exact h0
      · exact look_keepSl l r t V h
    · exact look_keepSl l r t V h
theorem look_keepOb : ∀ (l : List (Nat × Ob)) (seen : List Nat) (t : Nat), look (keepOb l seen) t = if memN t seen then none else look l t
  | [], seen, t => by simp [keepOb, look]
  | (k, o) :: r, seen, t => by
    simp only [keepOb]
    split
    · rename_i hm
      rw [look_keepOb r seen t, look_cons]
      by_cases hkt : k = t
      · subst hkt; simp [hm]
      · simp [hkt]
    · rename_i hm
      rw [look_cons, look_cons, look_keepOb r (k :: seen) t]
      by_cases hkt : k = t
      · subst hkt; simp [hm]
      · simp only [hkt, if_false, memN]
theorem Rel.keep {x : Cx} {σ : St} {ρ : Nat → Value} {a : Act} {w : World} (h : Rel x σ ρ a w) (ks : List Nat) : Rel x (σ.keep ks) ρ a w := by
  have hlook : ∀ j, look (keepOb σ.ob []) j = look σ.ob j := fun j => by rw [look_keepOb]; simp [memN]
  have hown : ∀ b, Own (keepOb σ.ob []) ρ b ↔ Own σ.ob ρ b := fun b => by unfold Own; simp only [hlook]
  have hU : ∀ b, b < w.heap.size → x.U σ.ob ρ b → x.U (keepOb σ.ob []) ρ b := fun b _ hb => ⟨hb.1, fun ho => hb.2 ((hown b).1 ho)⟩
  have hUn : ∀ b, x.U σ.ob ρ b → some b ≠ (none : Option Nat) := fun b _ e => by cases e
  have hon : ∀ j, True → IsRow σ.ob j → ∀ b, blk (ρ j) = some b → some b ≠ (none : Option Nat) := fun _ _ _ _ _ e => by cases e
  have hob : ∀ j, True → ∀ o, look σ.ob j = some o → ∃ o', look (keepOb σ.ob []) j = some o' ∧ ∀ ty ks rows, o = .row ty ks rows → o' = .row ty ks rows := fun j _ o ho => ⟨o, by rw [hlook]; exact ho, fun _ _ _ e => e⟩
  have hX : ∀ b, b < w.heap.size → Xo (x.U σ.ob ρ) σ.ob ρ b → Xo (x.U (keepOb σ.ob []) ρ) (keepOb σ.ob []) ρ b ∧ some b ≠ none := fun b _ hb => ⟨x.xo (fun i o b hi => h.fresh i o b (by rw [← hlook]; exact hi)) hb, fun e => by cases e⟩
  refine ⟨fun t V hV => (h.slots t V (look_keepSl _ _ _ _ hV)).step (fun _ => True) none hU hUn hob (fun _ _ => rfl) hon (fun _ _ _ h => h) hX (fun _ _ => trivial), fun j o hj => ?_, fun i j oi oj b hi hj => h.sep i j oi oj b (by rw [← hlook]; exact hi) (by rw [← hlook]; exact hj), fun i o b hi => h.fresh i o b (by rw [← hlook]; exact hi), h.grow, h.defers, fun j v hv => by obtain ⟨f1, f2, f3⟩ := h.fix j v hv; exact ⟨f1, by rw [show look (σ.keep ks).ob j = look σ.ob j from hlook j]; exact f2, f3⟩⟩
  have hor := h.objs j o (by rw [← hlook]; exact hj)
  cases o with
  | row ty ks rows => exact ORel.step_row none hU hUn (fun _ _ _ h => h) hor (fun _ _ => rfl)
  | box ss => exact ORel.step_box (fun _ => True) none hU hUn hob (fun _ _ => rfl) hon (fun _ _ _ h => h) hX hor (fun _ _ _ _ => trivial) (fun _ _ => rfl)

/-- does an operation of a region make or change memory? -/
def effB (ty : List (Nat × Td)) : List Oper → Bool
  | [] => false
  | o :: r => match o.op with
    | .alloc _ | .box _ _ | .store _ _ _ | .makeSlice _ _ _ | .buildSlice _ _ _ | .makeFunc _ _ _ => true
    | .call c => match c.callee with
      | .builtin .append => true
      | .value _ => match look ty o.type with
        | some ⟨.int _, _, _⟩ => effB ty r
        | some ⟨.bool, _, _⟩ => effB ty r
        | _ => true
      | _ => effB ty r
    | _ => effB ty r
theorem effB_plain {ty : List (Nat × Td)} : ∀ {l : List Oper}, effB ty l = false → ∀ o ∈ l, ∀ c f, o.op = .call c → c.callee = .value f → plainT ty o.type = true
  | [], _, o, ho, _, _, _, _ => by cases ho
  | o' :: r, h, o, ho, c, f, hc, hf => by
    have key : effB ty r = false ∧ (∀ c f, o'.op = .call c → c.callee = .value f → plainT ty o'.type = true) := by
      simp only [effB] at h
      split at h
      all_goals first
        | cases h
        | skip
      · rename_i c' hc'
        split at h
        · cases h
        · rename_i f' hf'
          split at h
          · rename_i hl; exact ⟨h, fun _ _ _ _ => by simp only [plainT, hl]⟩
          · rename_i hl; exact ⟨h, fun _ _ _ _ => by simp only [plainT, hl]⟩
          · cases h
        · rename_i hn
          exact ⟨h, fun c f hc hf => by rw [hc'] at hc; cases hc; exact absurd hf (hn f)⟩
      · rename_i hn
        exact ⟨h, fun c f hc hf => absurd hc (hn c)⟩
    rcases List.mem_cons.1 ho with rfl | ho
    · exact key.2 c f hc hf
    · exact effB_plain key.1 o ho c f hc hf
theorem effB_quiet {ty : List (Nat × Td)} : ∀ {l : List Oper}, effB ty l = false → ∀ o ∈ l, memO o = false
  | [], _, o, ho => by cases ho
  | o' :: r, h, o, ho => by
    have key : effB ty r = false ∧ memO o' = false := by
      simp only [effB] at h
      split at h
      all_goals first
        | cases h
        | skip
      · rename_i c' hc'
        split at h
        · cases h
        · rename_i f' hf'
          split at h
          · exact ⟨h, by simp [memO, hc', hf']⟩
          · exact ⟨h, by simp [memO, hc', hf']⟩
          · cases h
        · rename_i hn hn2
          refine ⟨h, ?_⟩
          simp only [memO, hc']
      · rename_i h1 h2 h3 h4 h5 h6 hn
        refine ⟨h, ?_⟩
        unfold memO
        split
        all_goals first
          | rfl
          | (rename_i he; exact absurd he (h1 _))
          | (rename_i he; exact absurd he (h1 _ _))
          | (rename_i he; exact absurd he (h2 _ _))
          | (rename_i he; exact absurd he (h3 _ _ _))
          | (rename_i he; exact absurd he (h4 _ _ _))
          | (rename_i he; exact absurd he (h5 _ _ _))
          | (rename_i he; exact absurd he (h6 _ _ _))
          | (rename_i he; exact absurd he (hn _))
    rcases List.mem_cons.1 ho with rfl | ho
    · exact key.2
    · exact effB_quiet key.1 o ho
def vc (Γ : Ctx) (ty : List (Nat × Td)) (kp : List Nat) : Code → (AEx → St → Prop) → St → Prop
  | .skip, Q, σ => Q .normal σ
  | .region _ ops draw, Q, σ => match draw && effB ty ops.toList with
    | true => (∃ τ ps, ordsOk ops ps = true ∧ (∀ p ∈ ps, vcOps Γ ty false ops.toList (pick ops p) σ fun σ => (σ.keep kp).le τ) ∧ Q .normal τ) ∨ (∃ p, ordOk ops p = true ∧ vcOps Γ ty true ops.toList (pick ops p) σ fun σ => Q .normal (σ.keep kp))
      ∨ (∃ ps, ordsX ops ps = true ∧ ∀ p ∈ ps, vcOps Γ ty true ops.toList (pick ops p) σ fun σ => Q .normal (σ.keep kp)) ∨ (∃ τ ps, ordsX ops ps = true ∧ (∀ p ∈ ps, vcOps Γ ty true ops.toList (pick ops p) σ fun σ => (σ.keep kp).le τ) ∧ Q .normal τ)
    | false => vcOps Γ ty draw ops.toList ops.toList σ fun σ => Q .normal (σ.keep kp)
  | .seq c d, Q, σ => vc Γ ty kp c (fun e σ => match e with
    | .normal => vc Γ ty kp d Q σ
    | e => Q e σ) σ
  | .cond c y z, Q, σ => match ev σ c with
    | .one (.bool b) => if b = true then vc Γ ty kp y Q σ else vc Γ ty kp z Q σ
    | _ => False
  | .block id c, Q, σ => vc Γ ty kp c (fun e σ => match e with
    | .exit i => if i = id then Q .normal σ else Q (.exit i) σ
    | e => Q e σ) σ
  | .loop c, Q, σ => ∃ (α : Type) (x0 : α) (m : α → Nat) (f : α → St), σ.le (f x0) ∧ ∀ y, vc Γ ty kp c (fun e σ => match e with
    | .normal => ∃ z, m z < m y ∧ σ.le (f z)
    | e => Q e σ) (f y)
  | .exit id, Q, σ => Q (.exit id) σ
  | .ret, Q, σ => Q .ret σ
  | _, _, _ => False
def okB (ty : List (Nat × Td)) (n : Nat) : Code → Bool
  | .region _ ops draw => ops.toList.all (fun o => dstOk n o.dst) && (!draw || effB ty ops.toList || Region.lexB .any ops)
  | .seq c d => okB ty n c && okB ty n d
  | .cond _ c d => okB ty n c && okB ty n d
  | .block _ c => okB ty n c
  | .loop c => okB ty n c
  | _ => true

def Post (x : Cx) (N : Nat) (Q : AEx → St → Prop) : Exit → Act → World → Prop
  | .normal, a, w => ∃ σ ρ, Q .normal σ ∧ Rel x σ ρ a w ∧ a.tmps.size = N
  | .exit id, a, w => ∃ σ ρ, Q (.exit id) σ ∧ Rel x σ ρ a w ∧ a.tmps.size = N
  | .ret, a, w => ∃ σ ρ, Q .ret σ ∧ Rel x σ ρ a w ∧ a.tmps.size = N
  | _, _, _ => False

theorem vc_sound {P : Program} {x : Cx} {ty : List (Nat × Td)} {Γ : Ctx} {kp : List Nat} {N : Nat} (hm : P.follows .mixedOrders = true) (hty : TyOk P ty) (hΓ : CtxOk P x Γ) :
    ∀ (c : Code) (Q : AEx → St → Prop) (σ : St) (ρ : Nat → Value) (a : Act) (w : World), okB ty N c = true → Rel x σ ρ a w → a.tmps.size = N → vc Γ ty kp c Q σ → c.wp P (Post x N Q) a w := by
  intro c
  induction c with
  | skip => intro Q σ ρ a w _ h hN hs; exact wp_skip ⟨σ, ρ, hs, h, hN⟩
  | region id ops draw =>
    intro Q σ ρ a w hok h hN hs
    simp only [okB, Bool.and_eq_true, List.all_eq_true] at hok
    simp only [vc] at hs
    split at hs
    · rename_i hb
      simp only [Bool.and_eq_true] at hb
      obtain ⟨rfl, _⟩ := hb
      rcases hs with ⟨τ, ps, hps, hp, hQ⟩ | ⟨p, hp, hs⟩ | ⟨ps, hps, hp⟩ | ⟨τ, ps, hps, hp, hQ⟩
      rotate_left
      rotate_left
      · exact redX_sound hm hty hΓ hok.1 (K := fun σ => Q .normal (σ.keep kp)) (Q := Post x N Q) (fun _ _ _ f => f) (fun σ' ρ' a' w' hK hrel hsz => ⟨_, ρ', hK, hrel.keep kp, hsz⟩) h hN hps hp
      · refine redX_sound hm hty hΓ hok.1 (K := fun σ => (σ.keep kp).le τ) (Q := Post x N Q) (fun _ _ _ f => f) (fun σ' ρ' a' w' hK hrel hsz => ?_) h hN hps hp
        obtain ⟨ρ2, h2⟩ := (hrel.keep kp).le hK
        exact ⟨τ, ρ2, hQ, h2, hsz⟩
      rotate_left
      · exact line_sound hm hty hΓ hok.1 (K := fun σ => Q .normal (σ.keep kp)) (Q := Post x N Q) (fun _ _ _ f => f) (fun σ' ρ' a' w' hK hrel hsz => ⟨_, ρ', hK, hrel.keep kp, hsz⟩) hp h hN hs
      refine red_sound hm hty hΓ hok.1 (K := fun σ => (σ.keep kp).le τ) (Q := Post x N Q) (fun _ _ _ f => f) (fun σ' ρ' a' w' hK hrel hsz => ?_) h hN hps hp
      obtain ⟨ρ2, h2⟩ := (hrel.keep kp).le hK
      exact ⟨τ, ρ2, hQ, h2, hsz⟩
    · rename_i hb
      cases draw with
      | false =>
        have := perm_sound (K := fun σ => Q .normal (σ.keep kp)) hty hΓ hok.1 (Q := Post x N Q) (fun σ' ρ' a' w' hK hrel hsz => ⟨_, ρ', hK, hrel.keep kp, hsz⟩) _ _ (range_ops ops) σ ρ a w h hN hs
        refine wp_region ?_
        simpa [List.range_eq_range'] using this
      | true =>
        have hne : effB ty ops.toList = false := by simpa using hb
        have hB : Region.lexB .any ops = true := by simpa [hne] using hok.2
        have hE : Ext w { w with drawn := w.drawn + 1 } NoM := ⟨rfl, rfl, Nat.le_refl _, fun _ _ _ => rfl, fun _ => rfl⟩
        refine wp_region_quiet (C := fun w' => Ext { w with drawn := w.drawn + 1 } w' NoM) hm hB (Ext.refl _ _) ?_
        exact quiet_sound (K := fun σ => Q .normal (σ.keep kp)) hty hΓ hok.1 (effB_plain hne) (effB_quiet hne) (fun σ' ρ' a' hK hrel hsz w' hw' => ⟨_, ρ', hK, (hrel.grown hw').keep kp, hsz⟩) ops.toList [] rfl σ ρ a (h.grown hE) hN hs
  | seq c d ihc ihd =>
    intro Q σ ρ a w hok h hN hs
    simp only [okB, Bool.and_eq_true] at hok
    refine wp_seq (wp_mono (ihc _ σ ρ a w hok.1 h hN hs) ?_)
    intro e a' w' hq
    cases e with
    | normal =>
      obtain ⟨σ', ρ', hq, hr, hn⟩ := hq
      exact ihd Q σ' ρ' a' w' hok.2 hr hn hq
    | exit id => exact hq
    | ret => exact hq
    | _ => exact hq.elim
  | cond c y z ihy ihz =>
    intro Q σ ρ a w hok h hN hs
    simp only [okB, Bool.and_eq_true] at hok
    simp only [vc] at hs
    have hc := ev_rel h c
    split at hs
    · rename_i b he; rw [he] at hc
      refine wp_cond_split hc.one_bool (fun hb => ihy Q σ ρ a w hok.1 h hN (by simpa only [hb, if_true] using hs)) (fun hb => ihz Q σ ρ a w hok.2 h hN (by simpa only [hb, Bool.false_eq_true, if_false] using hs))
    · exact hs.elim
  | block id c ih =>
    intro Q σ ρ a w hok h hN hs
    refine wp_block (wp_mono (ih _ σ ρ a w hok h hN hs) ?_)
    intro e a' w' hq
    cases e with
    | normal => exact hq
    | exit i =>
      obtain ⟨σ', ρ', hq, hr, hn⟩ := hq
      simp only [Exit.inBlock]
      by_cases hi : i = id
      · simp only [hi, if_true] at hq ⊢; exact ⟨σ', ρ', hq, hr, hn⟩
      · simp only [hi, if_false] at hq ⊢; exact ⟨σ', ρ', hq, hr, hn⟩
    | ret => exact hq
    | _ => exact hq.elim
  | loop c ih =>
    intro Q σ ρ a w hok h hN hs
    obtain ⟨α, x0, m, f, h0, hround⟩ := hs
    obtain ⟨ρ0, hr0⟩ := h.le h0
    refine wp_loop_ghost (fun n a w => ∃ y ρ, m y = n ∧ Rel x (f y) ρ a w ∧ a.tmps.size = N) (m x0) ⟨x0, ρ0, rfl, hr0, hN⟩ ?_
    rintro n a' w' ⟨y, ρ', rfl, hr, hn⟩
    refine wp_mono (ih _ (f y) ρ' a' w' hok hr hn (hround y)) ?_
    intro e a2 w2 hq
    cases e with
    | normal =>
      obtain ⟨σ2, ρ2, ⟨z, hz, hle⟩, hr2, hn2⟩ := hq
      obtain ⟨ρ3, hr3⟩ := hr2.le hle
      exact ⟨m z, hz, z, ρ3, rfl, hr3, hn2⟩
    | exit id => exact hq
    | ret => exact hq
    | _ => exact hq.elim
  | exit id => intro Q σ ρ a w _ h hN hs; exact wp_exit ⟨σ, ρ, hs, h, hN⟩
  | ret => intro Q σ ρ a w _ h hN hs; exact wp_ret ⟨σ, ρ, hs, h, hN⟩
  | _ => intro Q σ ρ a w _ h hN hs; exact hs.elim
end Go.Vq
