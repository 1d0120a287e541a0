/- Part Ze of the small logic: a region that draws its order, its orders said one by one. No conditions. -/
import Derived.Test.YtcibheinilkcoaaVcZd
namespace Go.Vq
open Go.RowKit
section
variable {P : Program} {ty : List (Nat × Td)} {kp : List Nat} {sl : List (Nat × V)} {ob : List (Nat × Ob)} {k : Kont}
theorem allP_n {α : Type} {p : α → Prop} : allP [] p := trivial
theorem allP_c {α : Type} {p : α → Prop} {x : α} {r : List α} (h : p x) (hr : allP r p) : allP (x :: r) p := ⟨h, hr⟩
theorem z_sn0 (h : St.le0 ⟨sl, ob⟩ ⟨sl, ob⟩) : SN (fun σ => σ.le ⟨sl, ob⟩) sl ob := ⟨[], rfl, h⟩
end
/-- a result that is given up: what was the caller's own may be read only -/
theorem Fn.weak {P : Program} {f : Nat} {cs : List (Bool × List C)} {r r' : Rs} (h : Fn P f cs r) (hle : St.le0 ⟨[(0, r.V 0)], r.O 0⟩ ⟨[(0, r'.V 0)], r'.O 0⟩) : Fn P f cs r' := by
  intro S vals w ha
  refine (h S vals w ha).mono fun e w' ⟨v, he, ⟨ρ, hr, hv⟩, hE⟩ => ?_
  refine ⟨v, he, ?_, hE⟩
  have h0 : Rel ⟨S, w, NoM, noF⟩ ⟨[(0, r.V 0)], r.O 0⟩ ρ ⟨#[v], []⟩ w' := by
    refine ⟨fun t V hV => ?_, hr.objs, hr.sep, hr.fresh, hr.grow, rfl, hr.fix⟩
    simp only [look_cons] at hV
    split at hV
    · rename_i ht; subst ht; cases hV; exact hv
    · simp [look] at hV
  obtain ⟨ρ', h1⟩ := h0.le0 hle
  exact ⟨ρ', ⟨(fun t V hV => by simp [look] at hV), h1.objs, h1.sep, h1.fresh, h1.grow, rfl, h1.fix⟩, h1.slots 0 _ rfl⟩
theorem FnC.weak {P : Program} {f : Nat} {cs : List (Bool × List C)} {r r' : Rs} (h : FnC P f cs r) (hle : St.le0 ⟨[(0, r.V 0)], r.O 0⟩ ⟨[(0, r'.V 0)], r'.O 0⟩) : FnC P f cs r' := ⟨h.cal, h.fn.weak hle⟩
/-! ### a nil slice that is handed over -/
def nilTo1 : V → V → Prop
  | .one .nil, .one (.ro _ rows) => rows = []
  | v, v' => v = v'
def nilTo : List V → List V → Prop
  | [], [] => True
  | v :: r, v' :: r' => nilTo1 v v' ∧ nilTo r r'
  | _, _ => False
theorem nilTo_rel {w : World} {U : Nat → Prop} {ob : List (Nat × Ob)} {ρ : Nat → Value} : ∀ {l l' : List V} {vs : List Value}, nilTo l l' → All2 (VRel w U ob ρ) vs l → All2 (VRel w U ob ρ) vs l'
  | [], [], vs, _, h => h
  | v :: r, v' :: r', vs, hn, h => by
    cases vs with
    | nil => have := h.1; simp at this
    | cons u vs =>
      have h1 : VRel w U ob ρ u v := h.2 0 u v rfl rfl
      have h2 : All2 (VRel w U ob ρ) vs r := ⟨by have := h.1; simpa using this, fun j u V hu hV => h.2 (j + 1) u V (by simpa using hu) (by simpa using hV)⟩
      refine (nilTo_rel hn.2 h2).cons ?_
      have h3 := hn.1
      unfold nilTo1 at h3
      split at h3
      · subst h3
        rw [show u = .slice none 0 0 from h1]
        exact Rd.nil _
      · rw [← h3]; exact h1
/-- a function of a nil slice and of a slice of ours -/
theorem FnC.nilM {P : Program} {f : Nat} {cs : List (Bool × List C)} {r : Rs} {as : List (Bool × List Ma)} {obs : List Mo} {vs : List V} {g : Bool} (h : FnC P f cs r) (hn : nilTo (as.map (maV (· + 500000))) vs) (ha : argsA (numb 500000 obs) vs = some (cs, g)) (hp : r.plain = true) (hf : r.flat = true) : FnMC P f as obs obs r := by
  refine ⟨h.cal, fun S vals w ρ hrel hargs => ?_, rfl, fun k o o' h1 h2 => ?_, fun j hj => by rw [plain_O hp] at hj; simp [look] at hj⟩
  · refine (h.fn _ vals w (argsA_rel hrel (nilTo_rel hn hargs) ha)).mono ?_
    rintro e w' ⟨v, rfl, hret, hE⟩
    obtain ⟨ρ', h1, h2⟩ := hrel.call hret hE (d := 0) (fun j hj => by rw [plain_O hp] at hj; simp [look] at hj) (.inr hf)
    exact ⟨v, ρ', rfl, h1, h2⟩
  · rw [h1] at h2; cases h2
    cases o <;> simp [Mo.like]
/-! ### an empty slice, whatever its rows would have been -/
theorem Rd.kinds {w : World} {S : Nat → Prop} {v : Value} {ks ks' : List Kd} (h : Rd w S v (.sq ks [])) : Rd w S v (.sq ks' []) := by
  cases h with
  | nil => exact .nil ks'
  | sq a n cap ks rows xs hn hc he hS hl hr hd => exact .sq a n cap ks' [] xs hn hc (fun r hr => by cases hr) hS hl hr hd
/-- the same data, but for the kinds of empty slices -/
def nzC (c c' : C) : Prop := c = c' ∨ ∃ ks ks', c = .sq ks [] ∧ c' = .sq ks' []
def nzL : List C → List C → Prop
  | [], [] => True
  | c :: r, c' :: r' => nzC c c' ∧ nzL r r'
  | _, _ => False
def nzA : List (Bool × List C) → List (Bool × List C) → Prop
  | [], [] => True
  | (b, c) :: r, (b', c') :: r' => b = b' ∧ nzL c c' ∧ nzA r r'
  | _, _ => False
theorem nzC.rd {w : World} {S : Nat → Prop} {v : Value} {c c' : C} (hn : nzC c c') (h : Rd w S v c) : Rd w S v c' := by
  rcases hn with rfl | ⟨ks, ks', rfl, rfl⟩
  · exact h
  · exact h.kinds
theorem nzL.rd {w : World} {S : Nat → Prop} : ∀ {cs cs' : List C} {vs : List Value}, nzL cs cs' → All2 (Rd w S) vs cs → All2 (Rd w S) vs cs'
  | [], [], _, _, h => h
  | c :: r, c' :: r', vs, hn, h => by
    obtain ⟨v, vs', rfl, h1, h2⟩ := h.cons_right
    exact All2.cons (hn.1.rd h1) (nzL.rd hn.2 h2)
theorem nzL_one {c : C} {l : List C} (h : nzL [c] l) : ∃ c', l = [c'] ∧ nzC c c' := by
  cases l with
  | nil => exact h.elim
  | cons c' r => cases r with
    | nil => exact ⟨c', rfl, h.1⟩
    | cons _ _ => exact h.2.elim
theorem FnC.nz {P : Program} {f : Nat} {cs cs' : List (Bool × List C)} {r : Rs} (h : FnC P f cs' r) (hn : nzA cs cs') (hw : ∀ p ∈ cs, p.1 = true ∨ ∃ c, p.2 = [c]) : FnC P f cs r := by
  refine ⟨h.cal, fun S vals w ha => h.fn S vals w ?_⟩
  clear h
  unfold ArgsRel at ha ⊢
  induction cs generalizing cs' vals with
  | nil => cases cs' with
    | nil => exact ha
    | cons _ _ => exact hn.elim
  | cons p q ih =>
    cases cs' with
    | nil => exact hn.elim
    | cons p' q' =>
      obtain ⟨v, vs', rfl, h1, h2⟩ := ha.cons_right
      obtain ⟨b, c⟩ := p
      obtain ⟨b', c'⟩ := p'
      obtain ⟨rfl, hl, hq⟩ := hn
      refine All2.cons ?_ (ih hq (fun p hp => hw p (List.mem_cons_of_mem _ hp)) vs' h2)
      cases b with
      | true => obtain ⟨us, rfl, hu⟩ := h1; exact ⟨us, rfl, hl.rd hu⟩
      | false =>
        rcases hw _ (List.mem_cons_self ..) with hh | ⟨c0, rfl⟩
        · cases hh
        · obtain ⟨c1, rfl, hc⟩ := nzL_one hl
          exact hc.rd h1
end Go.Vq
