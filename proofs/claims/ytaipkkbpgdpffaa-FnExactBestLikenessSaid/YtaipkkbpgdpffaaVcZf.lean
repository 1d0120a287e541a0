/- Part Zf of the small logic: function literals. No conditions. -/
import Derived.Test.YtaipkkbpgdpffaaVcZe
namespace Go.Vq
open Go.RowKit
/-- a box that is only read from now on -/
def frzS (i : Nat) (cs : List C) : Sc → Sc
  | .bx j o => if j = i then .rp (cs.drop o) else .bx j o
  | .int k n => .int k n
  | .bool b => .bool b
  | .ro ks rows => .ro ks rows
  | .nil => .nil
  | .root j => .root j
  | .rp cells => .rp cells
  | .fn f caps => .fn f caps
  | _ => .any
def frzV (i : Nat) (cs : List C) : V → V
  | .one s => .one (frzS i cs s)
  | .agg ss => .agg (ss.map (frzS i cs))
  | .tup _ => .one .any
def frzL (i : Nat) (cs : List C) : List (Nat × V) → List (Nat × V)
  | [] => []
  | (t, v) :: r => (t, frzV i cs v) :: frzL i cs r
def frz (i : Nat) (σ : St) : Option St := match look σ.ob i with
  | some (.box ss) => match unSs ss with
    | some cs => some ⟨frzL i cs σ.sl, drp σ.ob i⟩
    | none => none
  | _ => none
def frzAll (σ : St) : List V → Option St
  | [] => some σ
  | .one (.bx i _) :: r => match frz i σ with
    | some τ => frzAll τ r
    | none => frzAll σ r
  | _ :: r => frzAll σ r
section
variable {P : Program} {ty : List (Nat × Td)} {kp : List Nat} {sl : List (Nat × V)} {ob : List (Nat × Ob)} {k : Kont}
theorem z_mf {draw : Bool} {all rest : List Oper} {o : Oper} {d f : Nat} {caps : Array Operand} {τ : St} {ps : List (Bool × List C)} {cs : List C} (hd : o.dst = some d) (ho : o.op = .makeFunc (.func f) #[] caps)
    (_ : frzAll ⟨sl, ob⟩ (caps.toList.map (ev ⟨sl, ob⟩)) = some τ) (ha : argsA τ.ob (caps.toList.map (ev τ)) = some (ps, true)) (hp : unsing ps = some cs) (hle : St.le0 ⟨sl, ob⟩ τ)
    (h : Mok P ty kp (.ops draw all rest k) ((d, .one (.fn f ps)) :: τ.sl) τ.ob) : SX P ty kp (.op draw all rest k o) sl ob := by
  refine ⟨?_⟩
  show Do P ty kp draw all rest k o ⟨sl, ob⟩
  unfold Do
  simp only [stepK, ho, mfK, hd]
  have e := unsing_eq hp
  subst e
  exact ⟨trivial, τ, cs, hle, ha, h⟩
end
end Go.Vq
