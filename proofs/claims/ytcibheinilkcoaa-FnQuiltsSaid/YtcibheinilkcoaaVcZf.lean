/- Part Zf of the small logic: function literals. No conditions. -/
import Derived.Test.YtcibheinilkcoaaVcZe
namespace Go.Vq
open Go.RowKit
/-- a box that is only read from now on -/
def frzS (i : Nat) (cs : List C) : Sc → Sc
  | .bx j o => if j = i then .rp (cs.drop o) else .bx j o
  | .int k n => .int k n
  | .bool b => .bool b
  | .ro ks rows => .ro ks rows
  | .nil => .nil
  | .root j => .root j
  | .rp cells => .rp cells
  | .fn f caps => .fn f caps
  | _ => .any
def frzV (i : Nat) (cs : List C) : V → V
  | .one s => .one (frzS i cs s)
  | .agg ss => .agg (ss.map (frzS i cs))
  | .tup _ => .one .any
def frzL (i : Nat) (cs : List C) : List (Nat × V) → List (Nat × V)
  | [] => []
  | (t, v) :: r => (t, frzV i cs v) :: frzL i cs r
def frz (i : Nat) (σ : St) : Option St := match look σ.ob i with
  | some (.box ss) => match unSs ss with
    | some cs => some ⟨frzL i cs σ.sl, drp σ.ob i⟩
    | none => none
  | _ => none
def frzAll (σ : St) : List V → Option St
  | [] => some σ
  | .one (.bx i _) :: r => match frz i σ with
    | some τ => frzAll τ r
    | none => frzAll σ r
  | _ :: r => frzAll σ r
section
variable {P : Program} {ty : List (Nat × Td)} {kp : List Nat} {sl : List (Nat × V)} {ob : List (Nat × Ob)} {k : Kont}
theorem z_mf {draw : Bool} {all rest : List Oper} {o : Oper} {d f : Nat} {caps : Array Operand} {τ : St} {ps : List (Bool × List C)} {cs : List C} (hd : o.dst = some d) (ho : o.op = .makeFunc (.func f) #[] caps)
    (_ : frzAll ⟨sl, ob⟩ (caps.toList.map (ev ⟨sl, ob⟩)) = some τ) (ha : argsA τ.ob (caps.toList.map (ev τ)) = some (ps, true)) (hp : unsing ps = some cs) (hle : St.le0 ⟨sl, ob⟩ τ)
    (h : Mok P ty kp (.ops draw all rest k) ((d, .one (.fn f ps)) :: τ.sl) τ.ob) : SX P ty kp (.op draw all rest k o) sl ob := by
  refine ⟨?_⟩
  show Do P ty kp draw all rest k o ⟨sl, ob⟩
  unfold Do
  simp only [stepK, ho, mfK, hd]
  have e := unsing_eq hp
  subst e
  exact ⟨trivial, τ, cs, hle, ha, h⟩
/-- the front part of a row of ours -/
theorem z_fs {draw : Bool} {all rest : List Oper} {o : Oper} {d id tt : Nat} {t e : TypeId} {y hi : Operand} {ks0 : List Kd} {bs : Nat} {td : Td} {ks : List Kd} {rows : List (List C)} {κ : IntKind} {n : Int} (hd : o.dst = some d) (ho : o.op = .slice t y none (some hi) none)
    (hl : look ty t = some ⟨.slice e, ks0, bs⟩) (hle : look ty e = some td) (hy : ev ⟨sl, ob⟩ y = .one (.root id)) (hob : look ob id = some (.row tt ks rows)) (hks : td.ks.length = ks.length) (hn : ev ⟨sl, ob⟩ hi = .one (.int κ n))
    (h : Mok P ty kp (.ops draw all rest k) ((d, .one (.fv id n.toNat)) :: sl) ob) (h0 : 0 ≤ n ∧ n ≤ rows.length ∧ 0 < rows.length) : SX P ty kp (.op draw all rest k o) sl ob := by
  refine ⟨?_⟩
  show Do P ty kp draw all rest k o ⟨sl, ob⟩
  unfold Do
  simp only [stepK, ho, still, hl, hle, hy, hob]
  refine ⟨hks, .inr ?_⟩
  simp only [frontP, hn]
  refine ⟨h0.1, h0.2.1, h0.2.2, ?_⟩
  rw [hd]; exact h
/-- an append to the front part of a row of ours, of a part of a row -/
theorem z_fa {draw : Bool} {all rest : List Oper} {o : Oper} {d id id' n : Nat} {t t' e e' : TypeId} {s y : Operand} {ks0 ks1 : List Kd} {b0 b1 : Nat} {td : Td} {rows rows' : List (List C)} {c : Call} (hd : o.dst = some d) (ho : o.op = .call c)
    (hcal : c.callee = .builtin .append) (hargs : c.args.toList = [s, y]) (hts : c.argTypes.toList = [t, t']) (hl : look ty t = some ⟨.slice e, ks0, b0⟩) (hl' : look ty t' = some ⟨.slice e', ks1, b1⟩) (hle : look ty e = some td)
    (hs : ev ⟨sl, ob⟩ s = .one (.fv id n)) (hy : ev ⟨sl, ob⟩ y = .one (.vw id' td.ks rows')) (hfl : td.ks.all Kd.flat = true) (hkp : Nat.blt 0 td.ks.length = true) (hbp : Nat.blt 0 td.bytes = true) (hob : look ob id = some (.row e td.ks rows)) (hid : Nat.blt id 500000 = true)
    {sl' : List (Nat × V)} {ob' : List (Nat × Ob)} (hsl : mapV (V.kill true id) sl = sl') (hob' : mapV (Ob.kill true id) ob = ob')
    (h : Mok P ty kp (.ops draw all rest k) ((d, .one (.root id)) :: sl') ((id, .row e td.ks (rows.take n ++ rows')) :: ob')) (hb : (n + rows'.length) * td.bytes ≤ 140737488355328) : SX P ty kp (.op draw all rest k o) sl ob := by
  subst hsl; subst hob'
  refine ⟨?_⟩
  show Do P ty kp draw all rest k o ⟨sl, ob⟩
  unfold Do
  simp only [stepK, ho, hcal, eff, hd, hargs, hts, hl, hl', hle, hy, srcOf, effAppend, hs, hob]
  exact ⟨hfl, trivial, lt_of_blt hkp, lt_of_blt hbp, lt_of_blt hid, trivial, trivial, hb, h⟩
/-- is something appended to a front part? -/
def cutB (ops : Array Oper) : Bool := ops.toList.any fun o => match o.op with
  | .call c => match c.callee, c.args.toList with
    | .builtin .append, .tmp t :: _ => ops.toList.any fun o' => (match o'.dst with | some d => Nat.beq d t | none => false) && match o'.op with
      | .slice _ _ none (some _) none => true
      | _ => false
    | _, _ => false
  | _ => false
/-- a region where something is appended to a front part: step by step -/
structure SC (P : Program) (ty : List (Nat × Td)) (kp : List Nat) (m : M) (sl : List (Nat × V)) (ob : List (Nat × Ob)) : Prop where h : Mok P ty kp m sl ob
theorem z_xf {ops : Array Oper} (_ : cutB ops = true) (hp : ordsX ops [ord1 ops] = true) (h : SC P ty kp (.ops true ops.toList (pick ops (ord1 ops)) k) sl ob) : SD P ty kp ops k sl ob := z_x hp h.h
/-- some steps -/
theorem z_st {m : M} (n : Nat) (h : run P ty kp n m sl ob) : SC P ty kp m sl ob := ⟨run_ok n h⟩
end
end Go.Vq
