/- Part N of the small logic: contracts of calls. No conditions. -/
import Derived.Test.YtcibheinilkcoaaVcM
import Derived.Deep.LoopGhost
namespace Go.Vq
open Go.RowKit

/-! ### results -/
inductive Rc where
  | int (k : IntKind) (n : Int)
  | bool (b : Bool)
  | own (ty : Nat) (ks : List Kd) (rows : List (List C))
  | fz (ks : List Kd) (rows : List (List C))
  | bx (cs : List C)
def C.flatB : C → Bool
  | .sq _ _ => false
  | .ptr _ => false
  | .fn _ _ => false
  | _ => true
inductive Rs where
  | one (c : Rc)
  | agg (cs : List Rc)
  | tup (ps : List (Bool × List Rc))
def nxt (d : Nat) : List Rc → Nat
  | [] => d
  | .own .. :: r => nxt (d + 1000) r
  | .bx _ :: r => nxt (d + 1000) r
  | _ :: r => nxt d r
def scsOf (d : Nat) : List Rc → List Sc
  | [] => []
  | .int k n :: r => .int k n :: scsOf d r
  | .bool b :: r => .bool b :: scsOf d r
  | .own _ _ _ :: r => .root d :: scsOf (d + 1000) r
  | .fz ks rows :: r => .ro ks rows :: scsOf d r
  | .bx _ :: r => .bx d 0 :: scsOf (d + 1000) r
def obsOf (d : Nat) : List Rc → List (Nat × Ob)
  | [] => []
  | .own ty ks rows :: r => (d, .row ty ks rows) :: obsOf (d + 1000) r
  | .int _ _ :: r => obsOf d r
  | .bool _ :: r => obsOf d r
  | .fz _ _ :: r => obsOf d r
  | .bx cs :: r => (d, .box (cs.map C.toS)) :: obsOf (d + 1000) r
def tupS (d : Nat) : List (Bool × List Rc) → List (Bool × List Sc)
  | [] => []
  | (g, cs) :: r => (g, scsOf d cs) :: tupS (nxt d cs) r
def tupO (d : Nat) : List (Bool × List Rc) → List (Nat × Ob)
  | [] => []
  | (_, cs) :: r => obsOf d cs ++ tupO (nxt d cs) r
def Rs.V (d : Nat) : Rs → V
  | .one c => match scsOf d [c] with
    | [s] => .one s
    | _ => .one .any
  | .agg cs => .agg (scsOf d cs)
  | .tup ps => .tup (tupS d ps)
def Rs.O (d : Nat) : Rs → List (Nat × Ob)
  | .one c => obsOf d [c]
  | .agg cs => obsOf d cs
  | .tup ps => tupO d ps
def Rc.flat : Rc → Bool
  | .own _ ks _ => ks.all Kd.flat
  | .fz _ _ => false
  | .bx cs => cs.all C.flatB
  | _ => true
def Rs.flat : Rs → Bool
  | .one c => c.flat
  | .agg cs => cs.all Rc.flat
  | .tup ps => ps.all fun p => p.2.all Rc.flat
def Rc.plain : Rc → Bool
  | .int _ _ => true
  | .bool _ => true
  | _ => false
def Rs.plain : Rs → Bool
  | .one c => c.plain
  | .agg cs => cs.all Rc.plain
  | .tup _ => false

/-- what a call hands back: its value reads as the result, its slices are the caller's from now on -/
def Ret (S : Nat → Prop) (w w' : World) (v : Value) (r : Rs) : Prop :=
  ∃ ρ, Rel ⟨S, w, NoM, noF, false⟩ ⟨[], r.O 0⟩ ρ ⟨#[], []⟩ w' ∧ VRel w' (Cx.U ⟨S, w, NoM, noF, false⟩ (r.O 0) ρ) (r.O 0) ρ v (r.V 0)
def ArgsRel (w : World) (S : Nat → Prop) (vals : List Value) (cs : List (Bool × List C)) : Prop := All2 (CapRel w S) vals cs
/-- a function, called with values that read as these data, hands back this result; of old nothing changes -/
def Fn (P : Program) (f : Nat) (cs : List (Bool × List C)) (r : Rs) : Prop :=
  ∀ (S : Nat → Prop) (vals : List Value) (w : World), ArgsRel w S vals cs → Calls P f vals.toArray w fun e w' => ∃ v, e = .returned v ∧ Ret S w w' v r ∧ Ext w w' NoM

/-! ### arguments -/
def unsing : List (Bool × List C) → Option (List C)
  | [] => some []
  | (false, [c]) :: r => match unsing r with
    | some cs => some (c :: cs)
    | none => none
  | _ => none
theorem unsing_eq : ∀ {l : List (Bool × List C)} {cs : List C}, unsing l = some cs → l = cs.map fun c => (false, [c])
  | [], cs, h => by simp [unsing] at h; subst h; rfl
  | (false, [c]) :: r, cs, h => by
    simp only [unsing] at h
    split at h
    · rename_i cs' e
      cases h
      rw [List.map_cons, unsing_eq e]
    · cases h
  | (true, _) :: _, _, h => by simp [unsing] at h
  | (false, []) :: _, _, h => by simp [unsing] at h
  | (false, _ :: _ :: _) :: _, _, h => by simp [unsing] at h
theorem ex_list {β : Type} {Q : Nat → Value → β → Prop} : ∀ (n : Nat) (cells : List β), (∀ (j : Nat) c, cells[j]? = some c → ∃ u, Q (n + j) u c) → ∃ xs : List Value, xs.length = cells.length ∧ ∀ (j : Nat) u, xs[j]? = some u → ∃ c, cells[j]? = some c ∧ Q (n + j) u c
  | n, [], _ => ⟨[], rfl, fun j u h => by simp at h⟩
  | n, c :: cs, h => by
    obtain ⟨u, hu⟩ := h 0 c rfl
    obtain ⟨xs, h1, h2⟩ := ex_list (Q := Q) (n + 1) cs fun j c hj => by
      obtain ⟨u, hu⟩ := h (j + 1) c (by simpa using hj)
      exact ⟨u, by rwa [show n + 1 + j = n + (j + 1) by omega]⟩
    refine ⟨u :: xs, by simp [h1], fun j v hv => ?_⟩
    cases j with
    | zero => simp at hv; subst hv; exact ⟨c, rfl, hu⟩
    | succ j =>
      obtain ⟨c', hc', hq⟩ := h2 j v (by simpa using hv)
      exact ⟨c', by simpa using hc', by rwa [show n + (j + 1) = n + 1 + j by omega]⟩
theorem rp_rd {w : World} {U : Nat → Prop} {ob : List (Nat × Ob)} {ρ : Nat → Value} {v : Value} {cells : List C} (h : SRel w U ob ρ v (.rp cells)) : Rd w U v (.ptr cells) := by
  obtain ⟨a, rfl, h1, h2⟩ := h
  obtain ⟨xs, h3, h4⟩ := ex_list (Q := fun j u c => w.cell? (a.add j) = some u ∧ Rd w U u c) 0 cells fun j c hj => by rw [Nat.zero_add]; exact h2 j c hj
  refine .ptr a cells xs (fun hne => h1 (fun e => hne ?_)) h3 (fun j v hv => ?_) (fun j v c hv hc => ?_)
  · subst e; exact List.eq_nil_of_length_eq_zero h3
  · obtain ⟨c, _, hq⟩ := h4 j v hv
    rw [Nat.zero_add] at hq; exact hq.1
  · obtain ⟨c', hc', hq⟩ := h4 j v hv
    rw [hc] at hc'; cases hc'; exact hq.2
theorem fn_rd {w : World} {U : Nat → Prop} {ob : List (Nat × Ob)} {ρ : Nat → Value} {v : Value} {f : Nat} {cs : List C} (h : SRel w U ob ρ v (.fn f (cs.map fun c => (false, [c])))) : Rd w U v (.fn f cs) := by
  obtain ⟨vs, rfl, h1, h2⟩ := h
  refine .fn f cs vs (by simpa using h1) fun j v c hv hc => ?_
  exact h2 j v (false, [c]) hv (by simp [hc])
def Sc.toA (ob : List (Nat × Ob)) : Sc → Option (C × Bool)
  | .int k n => some (.int k n, true)
  | .bool b => some (.bool b, true)
  | .ro ks rows => some (.sq ks rows, true)
  | .nil => some (.sq [] [], true)
  | .vw _ ks rows => some (.sq ks rows, false)
  | .root id => match look ob id with
    | some (.row _ ks rows) => some (.sq ks rows, false)
    | _ => none
  | .rp cells => some (.ptr cells, true)
  | .xr ks rows => some (.sq ks rows, false)
  | .fn f caps => match unsing caps with
    | some cs => some (.fn f cs, true)
    | none => none
  | _ => none
def scsA (ob : List (Nat × Ob)) : List Sc → Option (List C × Bool)
  | [] => some ([], true)
  | s :: r => match s.toA ob, scsA ob r with
    | some (c, g), some (cs, h) => some (c :: cs, g && h)
    | _, _ => none
def argA (ob : List (Nat × Ob)) : V → Option ((Bool × List C) × Bool)
  | .one .any => none
  | .one s => match scsA ob [s] with
    | some (cs, g) => some ((false, cs), g)
    | none => none
  | .agg ss => match scsA ob ss with
    | some (cs, g) => some ((true, cs), g)
    | none => none
  | .tup _ => none
def argsA (ob : List (Nat × Ob)) : List V → Option (List (Bool × List C) × Bool)
  | [] => some ([], true)
  | V :: r => match argA ob V, argsA ob r with
    | some (p, g), some (ps, h) => some (p :: ps, g && h)
    | _, _ => none

section
variable {w : World} {U : Nat → Prop} {ob : List (Nat × Ob)} {ρ : Nat → Value}
/-- the blocks that an argument may be read in -/
def SA (U : Nat → Prop) (g : Bool) : Nat → Prop := if g = true then U else fun _ => True
theorem toA_rel {x : Cx} {σ : St} {a : Act} (h : Rel x σ ρ a w) {v : Value} {s : Sc} {c : C} {g : Bool} (hs : SRel w (x.U σ.ob ρ) σ.ob ρ v s) (hc : s.toA σ.ob = some (c, g)) : Rd w (SA (x.U σ.ob ρ) g) v c := by
  cases s with
  | int k n => simp [Sc.toA] at hc; obtain ⟨rfl, rfl⟩ := hc; cases hs; exact .int _ _
  | bool b => simp [Sc.toA] at hc; obtain ⟨rfl, rfl⟩ := hc; cases hs; exact .bool _
  | ro ks rows => simp [Sc.toA] at hc; obtain ⟨rfl, rfl⟩ := hc; exact hs
  | nil => simp [Sc.toA] at hc; obtain ⟨rfl, rfl⟩ := hc; rw [show v = .slice none 0 0 from hs]; exact .nil []
  | vw id ks rows => simp [Sc.toA] at hc; obtain ⟨rfl, rfl⟩ := hc; exact hs.1.mono (fun _ _ _ => trivial) fun _ _ _ h => h
  | root id =>
    simp only [Sc.toA] at hc
    split at hc
    · rename_i tt ks rows hob
      simp at hc; obtain ⟨rfl, rfl⟩ := hc
      obtain ⟨xs, hw, hkk, hx⟩ := h.objs id _ hob
      rw [hs.1]
      rcases hw.2 with ⟨hz, hn⟩ | ⟨g, cap, cur, hρ, _, hg, hn, hcm, hcs, htake⟩
      · rw [hz, List.eq_nil_of_length_eq_zero hn]; exact .nil ks
      · rw [hρ]
        exact .sq ⟨g, 0, none⟩ _ cap ks rows xs rfl hn hkk (fun _ => trivial) hx.1 (fun j u hu => hw.cells (by rw [hρ]; rfl) j u hu) (fun j u c hu hc => (hx.2 j u c hu hc).mono (fun _ _ _ => trivial) fun _ _ _ h => h)
    · cases hc
  | rp cells => simp [Sc.toA] at hc; obtain ⟨rfl, rfl⟩ := hc; exact rp_rd hs
  | xr ks rows => simp [Sc.toA] at hc; obtain ⟨rfl, rfl⟩ := hc; exact hs.mono (fun _ _ _ => trivial) fun _ _ _ h => h
  | fn f caps =>
    simp only [Sc.toA] at hc
    split at hc
    · rename_i cs e
      simp at hc; obtain ⟨rfl, rfl⟩ := hc
      rw [unsing_eq e] at hs
      exact fn_rd hs
    · cases hc
  | _ => simp [Sc.toA] at hc
theorem SA.and_left {U : Nat → Prop} {g h : Bool} {b : Nat} (hb : SA U g b) : SA U (g && h) b ∨ (g = true ∧ h = false ∧ U b) := by
  cases g <;> cases h <;> simp_all [SA]
theorem SA.left {U : Nat → Prop} {g h : Bool} : ∀ b, SA U g b → SA U (g && h) b := by
  intro b hb; cases g <;> cases h <;> simp_all [SA]
theorem SA.right {U : Nat → Prop} {g h : Bool} : ∀ b, SA U h b → SA U (g && h) b := by
  intro b hb; cases g <;> cases h <;> simp_all [SA]
theorem scsA_rel {x : Cx} {σ : St} {a : Act} (h : Rel x σ ρ a w) : ∀ {ss : List Sc} {vs : List Value} {cs : List C} {g : Bool}, All2 (SRel w (x.U σ.ob ρ) σ.ob ρ) vs ss → scsA σ.ob ss = some (cs, g) → All2 (Rd w (SA (x.U σ.ob ρ) g)) vs cs
  | [], vs, cs, g, hv, hc => by simp [scsA] at hc; obtain ⟨rfl, rfl⟩ := hc; rw [hv.nil_right]; exact All2.nil
  | s :: ss, vs, cs, g, hv, hc => by
    obtain ⟨v, vs', rfl, h1, h2⟩ := hv.cons_right
    simp only [scsA] at hc
    split at hc
    · rename_i c g1 cs' g2 e1 e2
      simp at hc; obtain ⟨rfl, rfl⟩ := hc
      exact ((toA_rel h h1 e1).mono (fun b _ => SA.left b) fun _ _ _ h => h) |> fun p => All2.cons p ((scsA_rel h h2 e2).mono fun _ _ q => q.mono (fun b _ => SA.right b) fun _ _ _ h => h)
    · cases hc
theorem CapRel.sa {v : Value} {p : Bool × List C} {S S' : Nat → Prop} (h : CapRel w S v p) (hs : ∀ b, S b → S' b) : CapRel w S' v p := h.mono (fun b _ => hs b) fun _ _ _ h => h
theorem argA_rel {x : Cx} {σ : St} {a : Act} (h : Rel x σ ρ a w) {V : V} {v : Value} {p : Bool × List C} {g : Bool} (hv : VRel w (x.U σ.ob ρ) σ.ob ρ v V) (hc : argA σ.ob V = some (p, g)) : CapRel w (SA (x.U σ.ob ρ) g) v p := by
  unfold argA at hc
  split at hc
  · cases hc
  · rename_i s _
    split at hc
    · rename_i cs g' e
      simp at hc; obtain ⟨rfl, rfl⟩ := hc
      have hr := scsA_rel h (vs := [v]) (All2.nil.cons hv) e
      have hl := hr.1
      match cs, hl, hr with
      | [c], _, hr => exact hr.head
    · cases hc
  · rename_i ss
    split at hc
    · rename_i cs g' e
      simp at hc; obtain ⟨rfl, rfl⟩ := hc
      obtain ⟨vs, rfl, hvs⟩ := hv
      exact ⟨vs, rfl, scsA_rel h hvs e⟩
    · cases hc
  · cases hc
theorem argsA_rel {x : Cx} {σ : St} {a : Act} (h : Rel x σ ρ a w) : ∀ {Vs : List V} {vs : List Value} {ps : List (Bool × List C)} {g : Bool}, All2 (VRel w (x.U σ.ob ρ) σ.ob ρ) vs Vs → argsA σ.ob Vs = some (ps, g) → ArgsRel w (SA (x.U σ.ob ρ) g) vs ps
  | [], vs, cs, g, hv, hc => by simp [argsA] at hc; obtain ⟨rfl, rfl⟩ := hc; rw [hv.nil_right]; exact All2.nil
  | V :: Vs, vs, cs, g, hv, hc => by
    obtain ⟨v, vs', rfl, h1, h2⟩ := hv.cons_right
    simp only [argsA] at hc
    split at hc
    · rename_i p g1 ps' g2 e1 e2
      simp at hc; obtain ⟨rfl, rfl⟩ := hc
      exact All2.cons ((argA_rel h h1 e1).sa SA.left) ((argsA_rel h h2 e2).mono fun _ _ q => q.sa SA.right)
    · cases hc
end

/-! ### the numbers of a result's objects -/
theorem nxt_le (d : Nat) : ∀ cs, d ≤ nxt d cs
  | [] => Nat.le_refl _
  | .own _ _ _ :: r => by simp only [nxt]; exact Nat.le_trans (by omega) (nxt_le (d + 1000) r)
  | .int _ _ :: r => by simp only [nxt]; exact nxt_le d r
  | .bool _ :: r => by simp only [nxt]; exact nxt_le d r
  | .fz _ _ :: r => by simp only [nxt]; exact nxt_le d r
  | .bx _ :: r => by simp only [nxt]; exact Nat.le_trans (by omega) (nxt_le (d + 1000) r)
theorem nxt_shift (d e : Nat) : ∀ cs, nxt (d + e) cs = nxt d cs + e
  | [] => rfl
  | .own _ _ _ :: r => by simp only [nxt]; rw [show d + e + 1000 = d + 1000 + e by omega, nxt_shift (d + 1000) e r]
  | .int _ _ :: r => by simp only [nxt]; exact nxt_shift d e r
  | .bool _ :: r => by simp only [nxt]; exact nxt_shift d e r
  | .fz _ _ :: r => by simp only [nxt]; exact nxt_shift d e r
  | .bx _ :: r => by simp only [nxt]; rw [show d + e + 1000 = d + 1000 + e by omega, nxt_shift (d + 1000) e r]
theorem look_append {β : Type} (l m : List (Nat × β)) (t : Nat) : look (l ++ m) t = (look l t).or (look m t) := by
  induction l with
  | nil => simp [look]
  | cons p r ih => obtain ⟨k, y⟩ := p; simp only [List.cons_append, look]; split <;> simp [ih]
theorem obsOf_shift (e : Nat) : ∀ (d : Nat) (cs : List Rc) (j : Nat), look (obsOf (d + e) cs) (j + e) = look (obsOf d cs) j
  | d, [], j => rfl
  | d, .own ty ks rows :: r, j => by
    simp only [obsOf, look]
    by_cases h : d = j
    · simp [h]
    · rw [if_neg h, if_neg (by omega), show d + e + 1000 = d + 1000 + e by omega]; exact obsOf_shift e (d + 1000) r j
  | d, .int _ _ :: r, j => by simp only [obsOf]; exact obsOf_shift e d r j
  | d, .bool _ :: r, j => by simp only [obsOf]; exact obsOf_shift e d r j
  | d, .fz _ _ :: r, j => by simp only [obsOf]; exact obsOf_shift e d r j
  | d, .bx bs :: r, j => by
    simp only [obsOf, look]
    by_cases h : d = j
    · simp [h]
    · rw [if_neg h, if_neg (by omega), show d + e + 1000 = d + 1000 + e by omega]; exact obsOf_shift e (d + 1000) r j
theorem obsOf_ge : ∀ (d : Nat) (cs : List Rc) (j : Nat), (look (obsOf d cs) j).isSome → d ≤ j
  | d, [], j, h => by simp [obsOf, look] at h
  | d, .own ty ks rows :: r, j, h => by
    simp only [obsOf, look] at h
    by_cases hd : d = j
    · omega
    · rw [if_neg hd] at h; have := obsOf_ge (d + 1000) r j h; omega
  | d, .int _ _ :: r, j, h => by simp only [obsOf] at h; exact obsOf_ge d r j h
  | d, .bool _ :: r, j, h => by simp only [obsOf] at h; exact obsOf_ge d r j h
  | d, .fz _ _ :: r, j, h => by simp only [obsOf] at h; exact obsOf_ge d r j h
  | d, .bx bs :: r, j, h => by
    simp only [obsOf, look] at h
    by_cases hd : d = j
    · omega
    · rw [if_neg hd] at h; have := obsOf_ge (d + 1000) r j h; omega
theorem tupO_shift (e : Nat) : ∀ (d : Nat) (ps : List (Bool × List Rc)) (j : Nat), look (tupO (d + e) ps) (j + e) = look (tupO d ps) j
  | d, [], j => rfl
  | d, (g, cs) :: r, j => by
    simp only [tupO, look_append, obsOf_shift]
    rw [nxt_shift, tupO_shift e (nxt d cs) r j]
theorem tupO_ge : ∀ (d : Nat) (ps : List (Bool × List Rc)) (j : Nat), (look (tupO d ps) j).isSome → d ≤ j
  | d, [], j, h => by simp [tupO, look] at h
  | d, (g, cs) :: r, j, h => by
    simp only [tupO, look_append, Option.isSome_or, Bool.or_eq_true] at h
    rcases h with h | h
    · exact obsOf_ge d cs j h
    · exact Nat.le_trans (nxt_le d cs) (tupO_ge _ r j h)
theorem Rs.O_shift (r : Rs) (e j : Nat) : look (r.O e) (j + e) = look (r.O 0) j := by
  cases r with
  | one c => have := obsOf_shift e 0 [c] j; rwa [Nat.zero_add] at this
  | agg cs => have := obsOf_shift e 0 cs j; rwa [Nat.zero_add] at this
  | tup ps => have := tupO_shift e 0 ps j; rwa [Nat.zero_add] at this
theorem Rs.O_ge (r : Rs) (d j : Nat) (h : (look (r.O d) j).isSome) : d ≤ j := by
  cases r with
  | one c => exact obsOf_ge d [c] j h
  | agg cs => exact obsOf_ge d cs j h
  | tup ps => exact tupO_ge d ps j h
/-- what an object of a result is -/
def ObOf (f : Bool) (o : Ob) : Prop := (∃ ty ks rows, o = .row ty ks rows ∧ (f = true → ks.all Kd.flat = true)) ∨ ∃ bs : List C, o = .box (bs.map C.toS) ∧ (f = true → bs.all C.flatB = true)
theorem ObOf.mono {f g : Bool} {o : Ob} (h : ObOf f o) (hfg : g = true → f = true) : ObOf g o := by
  rcases h with ⟨ty, ks, rows, h1, h2⟩ | ⟨bs, h1, h2⟩
  · exact .inl ⟨ty, ks, rows, h1, fun e => h2 (hfg e)⟩
  · exact .inr ⟨bs, h1, fun e => h2 (hfg e)⟩
theorem obsOf_row : ∀ (d : Nat) (cs : List Rc) (j : Nat) (o : Ob), look (obsOf d cs) j = some o → ObOf (cs.all Rc.flat) o
  | d, [], j, o, h => by simp [obsOf, look] at h
  | d, .own ty ks rows :: r, j, o, h => by
    simp only [obsOf, look] at h
    split at h
    · cases h; exact .inl ⟨ty, ks, rows, rfl, fun e => by simp only [List.all_cons, Bool.and_eq_true] at e; exact e.1⟩
    · exact (obsOf_row _ r j o h).mono fun e => by simp only [List.all_cons, Bool.and_eq_true] at e; exact e.2
  | d, .bx bs :: r, j, o, h => by
    simp only [obsOf, look] at h
    split at h
    · cases h; exact .inr ⟨bs, rfl, fun e => by simp only [List.all_cons, Bool.and_eq_true] at e; exact e.1⟩
    · exact (obsOf_row _ r j o h).mono fun e => by simp only [List.all_cons, Bool.and_eq_true] at e; exact e.2
  | d, .int _ _ :: r, j, o, h => by simp only [obsOf] at h; exact (obsOf_row _ r j o h).mono fun e => by simp only [List.all_cons, Bool.and_eq_true] at e; exact e.2
  | d, .bool _ :: r, j, o, h => by simp only [obsOf] at h; exact (obsOf_row _ r j o h).mono fun e => by simp only [List.all_cons, Bool.and_eq_true] at e; exact e.2
  | d, .fz _ _ :: r, j, o, h => by simp only [obsOf] at h; exact (obsOf_row _ r j o h).mono fun e => by simp only [List.all_cons, Bool.and_eq_true] at e; exact e.2
theorem tupO_row : ∀ (d : Nat) (ps : List (Bool × List Rc)) (j : Nat) (o : Ob), look (tupO d ps) j = some o → ObOf (ps.all fun p => p.2.all Rc.flat) o
  | d, [], j, o, h => by simp [tupO, look] at h
  | d, (g, cs) :: r, j, o, h => by
    simp only [tupO, look_append] at h
    cases h1 : look (obsOf d cs) j with
    | some o' =>
      rw [h1] at h; cases h
      exact (obsOf_row d cs j o h1).mono fun e => by simp only [List.all_cons, Bool.and_eq_true] at e; exact e.1
    | none =>
      rw [h1] at h
      exact (tupO_row _ r j o (by simpa using h)).mono fun e => by simp only [List.all_cons, Bool.and_eq_true] at e; exact e.2
theorem Rs.O_row (r : Rs) (d j : Nat) (o : Ob) (h : look (r.O d) j = some o) : ObOf r.flat o := by
  cases r with
  | one c => exact (obsOf_row d [c] j o h).mono fun e => by simpa [Rs.flat] using e
  | agg cs => exact obsOf_row d cs j o h
  | tup ps => exact tupO_row d ps j o h
theorem C.toS_inv {w : World} {U : Nat → Prop} {ob : List (Nat × Ob)} {ρ : Nat → Value} {u : Value} {c : C} (h : SRel w U ob ρ u c.toS) : Rd w U u c := by
  cases c with
  | int k n => rw [show u = .int k n from h]; exact .int k n
  | bool b => rw [show u = .bool b from h]; exact .bool b
  | sq ks rows => exact h
  | ptr cells => exact rp_rd h
  | fn f cs => exact fn_rd h
end Go.Vq
