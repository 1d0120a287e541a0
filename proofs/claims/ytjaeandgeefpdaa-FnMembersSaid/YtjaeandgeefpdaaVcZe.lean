/- Part Ze of the small logic: a region that draws its order, its orders said one by one. No conditions. -/
import Derived.Test.YtjaeandgeefpdaaVcZd
namespace Go.Vq
open Go.RowKit
section
variable {P : Program} {ty : List (Nat × Td)} {kp : List Nat} {sl : List (Nat × V)} {ob : List (Nat × Ob)} {k : Kont}
theorem allP_n {α : Type} {p : α → Prop} : allP [] p := trivial
theorem allP_c {α : Type} {p : α → Prop} {x : α} {r : List α} (h : p x) (hr : allP r p) : allP (x :: r) p := ⟨h, hr⟩
theorem z_sn0 (h : St.le0 ⟨sl, ob⟩ ⟨sl, ob⟩) : SN (fun σ => σ.le ⟨sl, ob⟩) sl ob := ⟨[], rfl, h⟩
end
/-- a result that is given up: what was the caller's own may be read only -/
theorem Fn.weak {P : Program} {f : Nat} {cs : List (Bool × List C)} {r r' : Rs} (h : Fn P f cs r) (hle : St.le0 ⟨[(0, r.V 0)], r.O 0⟩ ⟨[(0, r'.V 0)], r'.O 0⟩) : Fn P f cs r' := by
  intro S vals w ha
  refine (h S vals w ha).mono fun e w' ⟨v, he, ⟨ρ, hr, hv⟩, hE⟩ => ?_
  refine ⟨v, he, ?_, hE⟩
  have h0 : Rel ⟨S, w, NoM, noF⟩ ⟨[(0, r.V 0)], r.O 0⟩ ρ ⟨#[v], []⟩ w' := by
    refine ⟨fun t V hV => ?_, hr.objs, hr.sep, hr.fresh, hr.grow, rfl, hr.fix⟩
    simp only [look_cons] at hV
    split at hV
    · rename_i ht; subst ht; cases hV; exact hv
    · simp [look] at hV
  obtain ⟨ρ', h1⟩ := h0.le0 hle
  exact ⟨ρ', ⟨(fun t V hV => by simp [look] at hV), h1.objs, h1.sep, h1.fresh, h1.grow, rfl, h1.fix⟩, h1.slots 0 _ rfl⟩
theorem FnC.weak {P : Program} {f : Nat} {cs : List (Bool × List C)} {r r' : Rs} (h : FnC P f cs r) (hle : St.le0 ⟨[(0, r.V 0)], r.O 0⟩ ⟨[(0, r'.V 0)], r'.O 0⟩) : FnC P f cs r' := ⟨h.cal, h.fn.weak hle⟩
end Go.Vq
