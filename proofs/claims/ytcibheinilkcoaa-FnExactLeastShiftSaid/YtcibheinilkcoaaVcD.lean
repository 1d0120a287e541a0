/- Part D of the small logic: the operations that leave the world alone: what is asked, and that it is enough. No conditions. -/
import Derived.Test.YtcibheinilkcoaaVcC
namespace Go.Vq
open Go.RowKit

def intB (op : BinOp) (k : IntKind) (a b : Int) (K : V → Prop) : Prop := match op with
  | .add => K (.one (.int k (k.wrap (a + b))))
  | .sub => K (.one (.int k (k.wrap (a - b))))
  | .mul => K (.one (.int k (k.wrap (a * b))))
  | .quo => b ≠ 0 ∧ K (.one (.int k (k.wrap (a.tdiv b))))
  | .rem => b ≠ 0 ∧ K (.one (.int k (a.tmod b)))
  | .eql => K (.one (.bool (decide (a = b))))
  | .neq => K (.one (.bool (!decide (a = b))))
  | .lss => K (.one (.bool (decide (a < b))))
  | .leq => K (.one (.bool (decide (a ≤ b))))
  | .gtr => K (.one (.bool (decide (b < a))))
  | .geq => K (.one (.bool (decide (b ≤ a))))
  | .and | .or | .xor | .andNot => K (.one (.int k (bits op k a b)))
  | .shl => (0 ≤ b ∧ b ≤ k.bits) ∧ K (.one (.int k (k.wrap (a * 2 ^ b.toNat))))
  | .shr => (0 ≤ b ∧ b ≤ k.bits) ∧ K (.one (.int k (a / 2 ^ b.toNat)))
def boolB (op : BinOp) (a b : Bool) (K : V → Prop) : Prop := match op with
  | .eql => K (.one (.bool (a == b)))
  | .neq => K (.one (.bool (!(a == b))))
  | _ => False
/-- two structs of whole numbers are compared -/
def eqP : List Sc → List Sc → ((p : Prop) → Decidable p → Prop) → Prop
  | [.int k a], [.int k' b], K => k = k' ∧ K (a = b) inferInstance
  | .int k a :: r, .int k' b :: r', K => k = k' ∧ eqP r r' fun p d => K (a = b ∧ p) (@instDecidableAnd _ _ inferInstance d)
  | _, _, _ => False
def eqS (op : BinOp) (ss ts : List Sc) (K : V → Prop) : Prop := match op with
  | .eql => eqP ss ts fun p d => K (.one (.bool (@decide p d)))
  | .neq => eqP ss ts fun p d => K (.one (.bool (!(@decide p d))))
  | _ => False
/-- the part of an index: bounds, then the row -/
def atRow (ks : List Kd) (rows : List (List C)) (i : Int) (K : List C → Prop) : Prop :=
  0 ≤ i ∧ i < rows.length ∧ allShape ks fun row => rows[i.toNat]? = some row → K row
def lenS (ob : List (Nat × Ob)) : Sc → Option Nat
  | .ro _ rows => some rows.length
  | .vw _ _ rows => some rows.length
  | .nil => some 0
  | .root id => match look ob id with
    | some (.row _ _ rows) => some rows.length
    | _ => none
  | .xr _ rows => some rows.length
  | _ => none
def Sc.known : Sc → Prop
  | .any => False
  | .und => False
  | _ => True
def fillS (flds : List (Nat × Nat × Bool)) : List Sc → List (Nat × V) → (List Sc → Prop) → Prop
  | ss, [], K => K ss
  | ss, (f, V) :: r, K => match flds[f]? with
    | none => False
    | some (o, n, _) => match V with
      | .one s => s.known ∧ n = 1 ∧ o < ss.length ∧ fillS flds (ss.set o s) r K
      | .agg us => us.length = n ∧ o + n ≤ ss.length ∧ fillS flds (ss.take o ++ us ++ ss.drop (o + n)) r K
      | .tup _ => False
def stillCall (ty : List (Nat × Td)) (c : Callee) (args : List Operand) (ts : List TypeId) (σ : St) (K : V → Prop) : Prop := match c, args, ts with
  | .builtin .len, [x], [t] => match look ty t, ev σ x with
    | some ⟨.slice _, _, _⟩, .one s => match lenS σ.ob s with
      | some n => K (.one (.int .i64 n))
      | none => False
    | _, _ => False
  | .builtin .min, [x, y], _ => match ev σ x, ev σ y with
    | .one (.int k a), .one (.int _ b) => K (.one (.int k (if b < a then b else a)))
    | _, _ => False
  | .builtin .max, [x, y], _ => match ev σ x, ev σ y with
    | .one (.int k a), .one (.int _ b) => K (.one (.int k (if b > a then b else a)))
    | _, _ => False
  | _, _, _ => False
/-- the front part of a row of ours, up to a number -/
def frontP (σ : St) (lo hi : Option Operand) (len : Nat) (K : Nat → Prop) : Prop := match lo, hi with
  | none, some h => match ev σ h with
    | .one (.int _ n) => 0 ≤ n ∧ n ≤ len ∧ 0 < len ∧ K n.toNat
    | _ => False
  | _, _ => False
def still (ty : List (Nat × Td)) (o : Oper) (σ : St) (K : V → Prop) : Prop := match o.op with
  | .move x | .assign x => K (ev σ x)
  | .pick c a b => match ev σ c with
    | .one (.bool t) => match ev σ a, ev σ b with
      | .one (.bool p), .one (.bool q) => K (.one (.bool (bif t then p else q)))
      | va, vb => if t = true then K va else K vb
    | _ => False
  | .nilCheck x => match ev σ x with
    | .one (.bx i o) => K (.one (.bx i o))
    | .one (.rp cs) => K (.one (.rp cs))
    | .one (.vp i cs) => K (.one (.vp i cs))
    | .one (.ep i j o) => K (.one (.ep i j o))
    | _ => False
  | .unOp .not _ x => match ev σ x with
    | .one (.bool b) => K (.one (.bool !b))
    | _ => False
  | .unOp .neg _ x => match ev σ x with
    | .one (.int k n) => K (.one (.int k (k.wrap (0 - n))))
    | _ => False
  | .binOp op xt x y _ => match ev σ x, ev σ y with
    | .one (.int k a), .one (.int k' b) => (k = k' ∨ op = .shl ∨ op = .shr) ∧ intB op k a b K
    | .one (.bool a), .one (.bool b) => match look ty xt with
      | some ⟨.bool, _, _⟩ => boolB op a b K
      | _ => False
    | .agg ss, .agg ts => match look ty xt with
      | some ⟨.struct _, ks, _⟩ => ks.all Kd.intB = true ∧ ss.length = ks.length ∧ eqS op ss ts K
      | _ => False
    | _, _ => False
  | .convert src dst x => match ev σ x, look ty dst with
    | .one (.int _ n), some ⟨.int k', _, _⟩ => (look ty src).isSome ∧ K (.one (.int k' (k'.wrap n)))
    | _, _ => False
  | .field t x f => match ev σ x, look ty t with
    | .agg ss, some ⟨.struct flds, _, _⟩ => match flds[f]? with
      | some (o, n, g) => cut g n (ss.drop o) K
      | none => False
    | _, _ => False
  | .fieldAddr t x f => match look ty t with
    | some ⟨.struct flds, _, _⟩ => match flds[f]? with
      | some (o, n, _) => n ≠ 0 ∧ (match ev σ x with
        | .one (.bx i o') => K (.one (.bx i (o' + o)))
        | .one (.ep i j o') => K (.one (.ep i j (o' + o)))
        | .one (.rp cs) => K (.one (.rp (cs.drop o)))
        | .one (.vp i cs) => K (.one (.vp i (cs.drop o)))
        | _ => False)
      | none => False
    | _ => False
  | .indexAddr t x i => match look ty t, ev σ i with
    | some ⟨.slice e, _, _⟩, .one (.int _ n) => match look ty e with
      | some d => match ev σ x with
        | .one (.ro ks rows) => d.ks.length = ks.length ∧ atRow ks rows n fun row => K (.one (.rp row))
        | .one (.vw id ks rows) => d.ks.length = ks.length ∧ atRow ks rows n fun row => K (.one (.vp id row))
        | .one (.root id) => match look σ.ob id with
          | some (.row _ ks rows) => d.ks.length = ks.length ∧ 0 ≤ n ∧ n < rows.length ∧ K (.one (.ep id n.toNat 0))
          | _ => False
        | .one (.xr ks rows) => d.ks.length = ks.length ∧ atRow ks rows n fun row => K (.one (.xp row))
        | _ => False
      | none => False
    | _, _ => False
  | .load t p => match look ty t with
    | some d => match ev σ p with
      | .one (.bx id off) => match look σ.ob id with
        | some (.box ss) => cut d.sh.agg d.ks.length (ss.drop off) K
        | _ => False
      | .one (.rp cs) => cut d.sh.agg d.ks.length (cs.map C.toS) K
      | .one (.vp id cs) => cut d.sh.agg d.ks.length (cs.map (C.toW id)) K
      | .one (.ep id i off) => match look σ.ob id with
        | some (.row _ ks rows) => i < rows.length ∧ allShape ks fun row => rows[i]? = some row → cut d.sh.agg d.ks.length ((row.drop off).map (C.toW id)) K
        | _ => False
      | .one (.xp cs) => cut d.sh.agg d.ks.length (cs.map C.toX) K
      | _ => False
    | none => False
  | .extract x i => match ev σ x with
    | .tup ps => match ps[i]? with
      | some (true, ss) => K (.agg ss)
      | some (false, [s]) => K (.one s)
      | _ => False
    | _ => False
  | .build t parts => match look ty t with
    | some ⟨.struct flds, ks, _⟩ => fillS flds (ks.map Kd.zeroS) (parts.toList.map fun p => (p.1, ev σ p.2)) fun ss => K (.agg ss)
    | _ => False
  | .slice t x lo hi mx => match look ty t, mx with
    | some ⟨.slice e, _, _⟩, none => match look ty e with
      | some d =>
        let go (rows : List (List C)) (K' : List (List C) → Prop) : Prop := match (match lo with | none => V.one (.int .i64 0) | some l => ev σ l), (match hi with | none => V.one (.int .i64 rows.length) | some h => ev σ h) with
          | .one (.int _ l), .one (.int _ h) => 0 ≤ l ∧ l ≤ h ∧ h ≤ rows.length ∧ K' ((rows.take h.toNat).drop l.toNat)
          | _, _ => False
        match ev σ x with
        | .one (.ro ks rows) => d.ks.length = ks.length ∧ go rows fun r => K (.one (.ro ks r))
        | .one (.vw id ks rows) => d.ks.length = ks.length ∧ go rows fun r => K (.one (.vw id ks r))
        | .one .nil => go [] fun _ => K (.one .nil)
        | .one (.root id) => match look σ.ob id with
          | some (.row _ ks rows) => d.ks.length = ks.length ∧ ((go rows fun r => K (.one (.vw id ks r))) ∨ frontP σ lo hi rows.length fun n => K (.one (.fv id n)))
          | _ => False
        | _ => False
      | none => False
    | _, _ => False
  | .call c => stillCall ty c.callee c.args.toList c.argTypes.toList σ K
  | _ => False

/-- what an operation that leaves the world alone gives: one value, in every world that has grown since -/
def loadB (o : Oper) : Bool := match o.op with
  | .load _ _ => true
  | _ => false
def StillOk (P : Program) (x : Cx) (σ : St) (ρ : Nat → Value) (a : Act) (w : World) (o : Oper) (V : V) : Prop :=
  ∃ v, VRel w (x.U σ.ob ρ) σ.ob ρ v V ∧ ∀ w', (loadB o = true → Ext w w' NoM) → (execOp a.eval o).run P w' = .ok (.value v) w'

section
variable {P : Program} {w : World}
theorem run_sizeOf' {t : TypeId} {i : TypeInfo} (h : P.info? t = some i) (w : World) : (sizeOf t).run P w = .ok i.size w := by simp [sizeOf, typeInfo, h]
theorem run_isAgg' {t : TypeId} {ds : TypeDesc} (h : P.underlying t = some ds) (w : World) : (isAgg t).run P w = .ok (aggB P t) w := by
  unfold isAgg aggB
  rw [h]
  simp only [Sem.run_bind, run_underlying h, Result.andThen_ok]
  cases ds <;> rfl
theorem run_loadAt_agg {t : TypeId} {i : TypeInfo} {ds : TypeDesc} (hi : P.info? t = some i) (hu : P.underlying t = some ds) (hg : aggB P t = true) {a : Addr} {vs : List Value} (hl : vs.length = i.size)
    (hc : ∀ (j : Nat) v, vs[j]? = some v → w.cell? (a.add j) = some v) : (Instr.loadAt t (.pointer (some a))).run P w = .ok (.agg vs.toArray) w := by
  simp only [Instr.loadAt, Instr.sureAddr, Sem.run_bind, Sem.run_pure, Result.andThen_ok, loadVar, run_isAgg' hu, hg, if_true, run_sizeOf' hi, ← hl, run_loadCells_list w a vs hc]
theorem run_loadAt_one {t : TypeId} {ds : TypeDesc} (hu : P.underlying t = some ds) (hg : aggB P t = false) {a : Addr} {v : Value}
    (hc : w.cell? a = some v) : (Instr.loadAt t (.pointer (some a))).run P w = .ok v w := by
  simp only [Instr.loadAt, Instr.sureAddr, Sem.run_bind, Sem.run_pure, Result.andThen_ok, loadVar, run_isAgg' hu, hg, Bool.false_eq_true, if_false, run_load, hc]
theorem run_part_agg {t : TypeId} {i : TypeInfo} {ds : TypeDesc} (hi : P.info? t = some i) (hu : P.underlying t = some ds) (hg : aggB P t = true) (cs : Array Value) (off : Nat) :
    (part t cs off).run P w = .ok (.agg (cs.extract off (off + i.size))) w := by
  simp only [part, Sem.run_bind, run_isAgg' hu, hg, Result.andThen_ok, if_true, run_sizeOf' hi, Sem.run_pure]
theorem run_part_one {t : TypeId} {ds : TypeDesc} (hu : P.underlying t = some ds) (hg : aggB P t = false) {cs : Array Value} {off : Nat} {v : Value} (hv : cs[off]? = some v) :
    (part t cs off).run P w = .ok v w := by
  simp [part, run_isAgg' hu, hg, hv]
end
end Go.Vq
