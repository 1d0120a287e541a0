/- Part T of the small logic: small words on whole numbers. No conditions. -/
import Derived.Test.YtcibheinilkcoaaVcSa
namespace Go.Vq
open Go.RowKit

section
variable (Γ : Ctx) (ty : List (Nat × Td)) (kp : List Nat) (sl : List (Nat × V)) (ob : List (Nat × Ob)) (Q : AEx → St → Prop)
theorem vcO_nil (draw : Bool) (all : List Oper) (K : St → Prop) : vcOps Γ ty draw all [] ⟨sl, ob⟩ K = K ⟨sl, ob⟩ := by cases sl <;> rfl
theorem vcO_cons (draw : Bool) (all r : List Oper) (o : Oper) (K : St → Prop) : vcOps Γ ty draw all (o :: r) ⟨sl, ob⟩ K = match o.guard with
    | none => stepK Γ ty draw o ⟨sl, ob⟩ fun σ => vcOps Γ ty draw all r σ K
    | some (j, want) => match (all[j]?).bind (·.dst) with
      | some d => match look sl d with
        | some (.one (.bool b)) => if b = want then stepK Γ ty draw o ⟨(d, .one (.bool want)) :: sl, ob⟩ fun σ => vcOps Γ ty draw all r σ K
            else vcOps Γ ty draw all r ((⟨(d, .one (.bool !want)) :: sl, ob⟩ : St).put o.dst (.one .und)) K
        | some (.one .und) => vcOps Γ ty draw all r ((⟨sl, ob⟩ : St).put o.dst (.one .und)) K
        | _ => False
      | none => False := by cases sl <;> rfl
theorem vc_skip : vc Γ ty kp .skip Q ⟨sl, ob⟩ = Q .normal ⟨sl, ob⟩ := by cases sl <;> rfl
theorem vc_seq (c d : Code) : vc Γ ty kp (.seq c d) Q ⟨sl, ob⟩ = vc Γ ty kp c (fun e σ => match e with
    | .normal => vc Γ ty kp d Q σ
    | e => Q e σ) ⟨sl, ob⟩ := by cases sl <;> rfl
theorem vc_cond (c : Operand) (y z : Code) : vc Γ ty kp (.cond c y z) Q ⟨sl, ob⟩ = match ev ⟨sl, ob⟩ c with
    | .one (.bool b) => if b = true then vc Γ ty kp y Q ⟨sl, ob⟩ else vc Γ ty kp z Q ⟨sl, ob⟩
    | _ => False := by cases sl <;> rfl
theorem vc_block (id : Nat) (c : Code) : vc Γ ty kp (.block id c) Q ⟨sl, ob⟩ = vc Γ ty kp c (fun e σ => match e with
    | .exit i => if i = id then Q .normal σ else Q (.exit i) σ
    | e => Q e σ) ⟨sl, ob⟩ := by cases sl <;> rfl
theorem vc_loop (c : Code) : vc Γ ty kp (.loop c) Q ⟨sl, ob⟩ = ∃ (α : Type) (x0 : α) (m : α → Nat) (f : α → St), St.le ⟨sl, ob⟩ (f x0) ∧ ∀ y, vc Γ ty kp c (fun e σ => match e with
    | .normal => ∃ z, m z < m y ∧ σ.le (f z)
    | e => Q e σ) (f y) := by cases sl <;> rfl
theorem vc_exit (id : Nat) : vc Γ ty kp (.exit id) Q ⟨sl, ob⟩ = Q (.exit id) ⟨sl, ob⟩ := by cases sl <;> rfl
theorem vc_ret : vc Γ ty kp .ret Q ⟨sl, ob⟩ = Q .ret ⟨sl, ob⟩ := by cases sl <;> rfl
theorem put_one (d : Nat) (s : Sc) : St.put ⟨sl, ob⟩ (some d) (.one s) = ⟨(d, .one s) :: sl, ob⟩ := by cases sl <;> rfl
theorem put_agg (d : Nat) (s : List Sc) : St.put ⟨sl, ob⟩ (some d) (.agg s) = ⟨(d, .agg s) :: sl, ob⟩ := by cases sl <;> rfl
theorem put_tup (d : Nat) (s : List (Bool × List Sc)) : St.put ⟨sl, ob⟩ (some d) (.tup s) = ⟨(d, .tup s) :: sl, ob⟩ := by cases sl <;> rfl
theorem put_none (V : V) : St.put ⟨sl, ob⟩ none V = ⟨sl, ob⟩ := by cases sl <;> rfl
end
theorem w64 {x : Int} (h : -9223372036854775808 ≤ x) (h' : x ≤ 9223372036854775807) : IntKind.i64.wrap x = x := Go.IntWalk.i64_in x ⟨h, h'⟩
end Go.Vq
