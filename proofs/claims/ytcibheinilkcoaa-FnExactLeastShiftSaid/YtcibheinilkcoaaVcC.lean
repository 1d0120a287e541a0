/- Part C of the small logic: a table of types, and the operations that leave the world alone. No conditions. -/
import Derived.Test.YtcibheinilkcoaaVcB
import Derived.Laws.Tables
import Derived.DataElems
namespace Go.Vq
open Go.RowKit

/-! ### types -/
inductive Sh where
  | int (k : IntKind)
  | bool
  | slice (e : Nat)
  | struct (flds : List (Nat × Nat × Bool))
  | other
structure Td where
  sh : Sh
  ks : List Kd
  bytes : Nat
def Sh.agg : Sh → Bool
  | .struct _ => true
  | _ => false
def Kd.zeroB : Kd → Value → Bool
  | .int k, .int k' n => k == k' && n == 0
  | .bool, .bool b => !b
  | .sl _, .slice none 0 0 => true
  | _, _ => false
def Kd.zeroS : Kd → Sc
  | .int k => .int k 0
  | .bool => .bool false
  | .sl _ => .nil
  | .ref => .any
def Kd.zeroC : Kd → C
  | .int k => .int k 0
  | .bool => .bool false
  | .sl ks => .sq ks []
  | .ref => .ptr []
def zerosB : List Value → List Kd → Bool
  | [], [] => true
  | v :: vs, k :: ks => k.zeroB v && zerosB vs ks
  | _, _ => false
def aggB (P : Program) (t : Nat) : Bool := match P.underlying t with
  | some (.struct _) | some (.array ..) => true
  | _ => false
def fldsB (P : Program) : List Field → List (Nat × Nat × Bool) → Bool
  | [], [] => true
  | f :: fs, (o, n, g) :: r => f.offset == o && ((P.info? f.type).map (·.size) == some n) && aggB P f.type == g && (P.underlying f.type).isSome && fldsB P fs r
  | _, _ => false
def shB (P : Program) : TypeDesc → Sh → Bool
  | .int k, .int k' => k == k'
  | .bool, .bool => true
  | .slice e, .slice e' => e == e'
  | .struct fs, .struct r => fldsB P fs.toList r
  | .struct _, _ | .array .., _ => false
  | _, .other => true
  | _, _ => false
def Kd.intB : Kd → Bool
  | .int _ => true
  | _ => false
/-- fields that are whole numbers, from the cell j on -/
def eqFB (P : Program) : List Field → List Kd → Nat → Bool
  | [], [], _ => true
  | f :: fs, .int k :: ks, j => (f.name != "_") && f.offset == j && (match P.underlying f.type with | some (.int k') => k' == k | _ => false) && !(aggB P f.type) && eqFB P fs ks (j + 1)
  | _, _, _ => false
/-- a struct of whole numbers, that can be compared -/
def eqTB (P : Program) (t : Nat) (ks : List Kd) : Bool := !(P.stoodInHeld t) && !(P.eqGuardType P.depth t) && (match P.underlying t with | some (.struct fs) => eqFB P fs.toList ks 0 | _ => false)
def tdB (P : Program) (t : Nat) (d : Td) : Bool := match P.info? t, P.underlying t with
  | some i, some ds => i.size == d.ks.length && i.bytes == d.bytes && (match i.zero with | some z => zerosB z.cells.toList d.ks && ((match z with | .agg _ => true | _ => false) == d.sh.agg) | none => false) && shB P ds d.sh && (!(d.sh.agg && d.ks.all Kd.intB) || eqTB P t d.ks)
  | _, _ => false
def TyOk (P : Program) (ty : List (Nat × Td)) : Prop := ty.all (fun p => tdB P p.1 p.2) = true
theorem TyOk.get {P : Program} {ty : List (Nat × Td)} (h : TyOk P ty) {t : Nat} {d : Td} (hl : look ty t = some d) : tdB P t d = true := by
  unfold TyOk at h
  induction ty with
  | nil => cases hl
  | cons p r ih =>
    obtain ⟨k, x⟩ := p
    simp only [List.all_cons, Bool.and_eq_true] at h
    rw [look_cons] at hl
    by_cases hk : k = t
    · simp only [hk, if_true, Option.some.injEq] at hl; subst hl; subst hk; exact h.1
    · simp only [hk, if_false] at hl; exact ih h.2 hl
theorem tdB.info {P : Program} {t : Nat} {d : Td} (h : tdB P t d = true) : ∃ i ds, P.info? t = some i ∧ P.underlying t = some ds ∧ i.size = d.ks.length ∧ i.bytes = d.bytes ∧
    (∃ z, i.zero = some z ∧ zerosB z.cells.toList d.ks = true ∧ ((match z with | .agg _ => true | _ => false) = d.sh.agg)) ∧ shB P ds d.sh = true := by
  unfold tdB at h
  split at h
  · rename_i i ds hi hu
    simp only [Bool.and_eq_true, beq_iff_eq] at h
    obtain ⟨⟨⟨⟨h1, h2⟩, h3⟩, h4⟩, _⟩ := h
    refine ⟨i, ds, hi, hu, h1, h2, ?_, h4⟩
    split at h3
    · rename_i z hz
      simp only [Bool.and_eq_true, beq_iff_eq] at h3
      exact ⟨z, hz, h3.1, h3.2⟩
    · cases h3
  · cases h
theorem tdB.eqs {P : Program} {t : Nat} {d : Td} (h : tdB P t d = true) (hg : d.sh.agg = true) (hk : d.ks.all Kd.intB = true) : P.stoodInHeld t = false ∧ P.eqGuardType P.depth t = false ∧ ∃ fs, P.underlying t = some (.struct fs) ∧ eqFB P fs.toList d.ks 0 = true := by
  unfold tdB at h
  split at h
  · rename_i i ds hi hu
    simp only [Bool.and_eq_true, hg, hk, Bool.not_true, Bool.false_or, eqTB, Bool.not_eq_true', Bool.and_true] at h
    obtain ⟨_, ⟨h1, h2⟩, h3⟩ := h
    refine ⟨h1, h2, ?_⟩
    split at h3
    · rename_i fs hf; exact ⟨fs, hf, h3⟩
    · cases h3
  · cases h
theorem shB.int {P : Program} {ds : TypeDesc} {k : IntKind} (h : shB P ds (.int k) = true) : ds = .int k := by
  cases ds <;> simp_all [shB]
theorem shB.bool {P : Program} {ds : TypeDesc} (h : shB P ds .bool = true) : ds = .bool := by
  cases ds <;> simp_all [shB]
theorem shB.slice {P : Program} {ds : TypeDesc} {e : Nat} (h : shB P ds (.slice e) = true) : ds = .slice e := by
  cases ds <;> simp_all [shB]
theorem shB.struct {P : Program} {ds : TypeDesc} {r : List (Nat × Nat × Bool)} (h : shB P ds (.struct r) = true) : ∃ fs, ds = .struct fs ∧ fldsB P fs.toList r = true := by
  cases ds <;> simp_all [shB]
theorem shB.agg {P : Program} {t : Nat} {ds : TypeDesc} {s : Sh} (hu : P.underlying t = some ds) (h : shB P ds s = true) : aggB P t = s.agg := by
  unfold aggB; rw [hu]
  cases ds <;> cases s <;> simp_all [shB, Sh.agg]
theorem fldsB.get {P : Program} : ∀ {fs : List Field} {r : List (Nat × Nat × Bool)}, fldsB P fs r = true → ∀ {j o n : Nat} {g : Bool}, r[j]? = some (o, n, g) →
    ∃ f : Field, fs[j]? = some f ∧ f.offset = o ∧ (P.info? f.type).map (·.size) = some n ∧ aggB P f.type = g ∧ (P.underlying f.type).isSome
  | [], [], _, j, o, n, g, h => by simp at h
  | f :: fs, (o', n', g') :: r, hb, j, o, n, g, h => by
    simp only [fldsB, Bool.and_eq_true, beq_iff_eq] at hb
    cases j with
    | zero => simp at h; obtain ⟨rfl, rfl, rfl⟩ := h; exact ⟨f, rfl, hb.1.1.1.1, hb.1.1.1.2, hb.1.1.2, hb.1.2⟩
    | succ j => simp at h; simpa using fldsB.get hb.2 h

/-! ### operands -/
def constV : Value → V
  | .int k n => .one (.int k n)
  | .bool b => .one (.bool b)
  | .slice none 0 0 => .one .nil
  | _ => .one .any
def ev (σ : St) : Operand → V
  | .tmp t => match look σ.sl t with
    | some V => V
    | none => .one .any
  | .const v => constV v
  | .func f => .one (.fn f [])
  | .global _ => .one .any
theorem ev_rel {x : Cx} {σ : St} {ρ : Nat → Value} {a : Act} {w : World} (h : Rel x σ ρ a w) (o : Operand) : VRel w (x.U σ.ob ρ) σ.ob ρ (a.eval o) (ev σ o) := by
  cases o with
  | tmp t =>
    simp only [ev, Act.eval]
    split
    · rename_i V hV; exact h.slots t V hV
    · trivial
  | const v =>
    simp only [ev, Act.eval]
    unfold constV
    split <;> first | rfl | trivial
  | global g => trivial
  | func f => exact ⟨[], rfl, All2.nil⟩

/-! ### reading rows -/
def allShape : List Kd → (List C → Prop) → Prop
  | [], k => k []
  | .int κ :: r, k => ∀ n, allShape r fun cs => k (.int κ n :: cs)
  | .bool :: r, k => ∀ b, allShape r fun cs => k (.bool b :: cs)
  | .sl ks :: r, k => ∀ rows, allShape r fun cs => k (.sq ks rows :: cs)
  | .ref :: r, k => ∀ c : C, c.kd = .ref → allShape r fun cs => k (c :: cs)
theorem allShape.get : ∀ {ks : List Kd} {k : List C → Prop}, allShape ks k → ∀ {row : List C}, row.map C.kd = ks → k row
  | [], k, h, row, hr => by simp at hr; subst hr; exact h
  | kd :: ks, k, h, row, hr => by
    cases row with
    | nil => simp at hr
    | cons c cs =>
      simp only [List.map_cons, List.cons.injEq] at hr
      obtain ⟨h1, h2⟩ := hr
      cases c with
      | int κ n => subst h1; exact allShape.get (h n) h2
      | bool b => subst h1; exact allShape.get (h b) h2
      | sq ks' rows => subst h1; exact allShape.get (h rows) h2
      | ptr cells => subst h1; exact allShape.get (h (.ptr cells) rfl) h2
      | fn f cs' => subst h1; exact allShape.get (h (.fn f cs') rfl) h2

theorem flatten_get {rows : List (List C)} {m i j : Nat} {row : List C} (he : ∀ r ∈ rows, r.length = m) (hi : rows[i]? = some row) (hj : j < m) : rows.flatten[i * m + j]? = row[j]? := by
  induction rows generalizing i with
  | nil => simp at hi
  | cons r rs ih =>
    have hr : r.length = m := he r (by simp)
    cases i with
    | zero =>
      simp at hi; subst hi
      rw [List.flatten_cons, List.getElem?_append_left (by omega)]
      simp
    | succ i =>
      simp at hi
      rw [List.flatten_cons, List.getElem?_append_right (by rw [hr, Nat.succ_mul]; omega)]
      have := ih (fun r hr => he r (by simp [hr])) hi
      rw [hr, show (i + 1) * m + j - m = i * m + j by rw [Nat.succ_mul]; omega]
      exact this
theorem flatten_len {rows : List (List C)} {m : Nat} (he : ∀ r ∈ rows, r.length = m) : rows.flatten.length = rows.length * m := by
  induction rows with
  | nil => simp
  | cons r rs ih =>
    rw [List.flatten_cons, List.length_append, ih (fun r hr => he r (by simp [hr])), he r (by simp), List.length_cons, Nat.succ_mul, Nat.add_comm]
theorem kd_len {ks : List Kd} {rows : List (List C)} (he : ∀ r ∈ rows, r.map C.kd = ks) : ∀ r ∈ rows, r.length = ks.length := fun r hr => by rw [← he r hr]; simp

/-- the row at i of a slice that reads -/
theorem Rd.row {w : World} {S : Nat → Prop} {a : Addr} {n cap : Nat} {ks : List Kd} {rows : List (List C)} (h : Rd w S (.slice (some a) n cap) (.sq ks rows)) {i : Nat} {row : List C} (hi : rows[i]? = some row) :
    row.map C.kd = ks ∧ (row ≠ [] → S a.block) ∧ ∀ (j : Nat) c, row[j]? = some c → ∃ u, w.cell? ((a.add (i * ks.length)).add j) = some u ∧ Rd w S u c := by
  cases h with
  | sq a n cap ks rows xs hn hc he hS hl hr hd =>
    have hm := kd_len he
    have hrow : row ∈ rows := List.mem_of_getElem? hi
    refine ⟨he row hrow, fun hne => hS ?_, fun j c hj => ?_⟩
    · intro e; subst e
      rw [flatten_len hm] at hl
      have h1 : 0 < rows.length := List.length_pos_of_mem hrow
      have h2 : 0 < ks.length := by rw [← hm row hrow]; exact List.length_pos_iff.2 hne
      have := Nat.mul_pos h1 h2
      simp only [List.length_nil] at hl
      omega
    · have hjl : j < ks.length := by rw [← hm row hrow]; exact (List.getElem?_eq_some_iff.1 hj).1
      have hf := flatten_get hm hi hjl
      rw [hj] at hf
      have hx : i * ks.length + j < xs.length := by rw [hl]; exact (List.getElem?_eq_some_iff.1 hf).1
      refine ⟨xs[i * ks.length + j], ?_, hd _ _ _ (by simp [hx]) hf⟩
      rw [Addr.add_add]
      exact hr _ _ (by simp [hx])

/-! ### parts of values -/
def C.toS : C → Sc
  | .int k n => .int k n
  | .bool b => .bool b
  | .sq ks rows => .ro ks rows
  | .ptr cells => .rp cells
  | .fn f cs => .fn f (cs.map fun c => (false, [c]))
def C.toW (id : Nat) : C → Sc
  | .int k n => .int k n
  | .bool b => .bool b
  | .sq ks rows => .vw id ks rows
  | .ptr _ => .any
  | .fn _ _ => .any
def C.toX : C → Sc
  | .int k n => .int k n
  | .bool b => .bool b
  | .sq ks rows => .xr ks rows
  | .ptr _ => .any
  | .fn _ _ => .any
/-- a load of n cells: a struct, or one cell -/
def cut (g : Bool) (n : Nat) (ss : List Sc) (K : V → Prop) : Prop :=
  match g, ss.take n with
  | true, l => l.length = n ∧ K (.agg l)
  | false, [s] => n = 1 ∧ K (.one s)
  | _, _ => False
end Go.Vq
