/- A small logic over the model: abstract states of a call (ints, bools, slices that are read, rows and boxes that the call owns). Part A: the words, and how they persist. No conditions. -/
import Derived.Calls
import Derived.Deep.Quiet
import Derived.StillTail
import Derived.Laws.AppendOwn
import Derived.Laws.Cells
import Derived.WalkKit
import Derived.ProofKit
namespace Go.Vq
open Go.RowKit

/-! ### lists by index -/
def All2 {α β : Type} (R : α → β → Prop) (l : List α) (m : List β) : Prop := l.length = m.length ∧ ∀ (j : Nat) (x : α) (y : β), l[j]? = some x → m[j]? = some y → R x y
section
variable {α β : Type} {R R' : α → β → Prop} {l l' : List α} {m m' : List β}
theorem All2.nil : All2 R [] [] := ⟨rfl, fun j x y h => by simp at h⟩
theorem All2.cons {x : α} {y : β} (h : R x y) (hl : All2 R l m) : All2 R (x :: l) (y :: m) := by
  refine ⟨by simp [hl.1], fun j u v hu hv => ?_⟩
  cases j with
  | zero => simp at hu hv; subst hu; subst hv; exact h
  | succ j => simp at hu hv; exact hl.2 j u v hu hv
theorem All2.head {x : α} {y : β} (h : All2 R (x :: l) (y :: m)) : R x y := h.2 0 x y rfl rfl
theorem All2.tail {x : α} {y : β} (h : All2 R (x :: l) (y :: m)) : All2 R l m := ⟨by simpa using h.1, fun j u v hu hv => h.2 (j + 1) u v (by simpa using hu) (by simpa using hv)⟩
theorem All2.nil_right (h : All2 R l []) : l = [] := List.eq_nil_of_length_eq_zero (by simpa using h.1)
theorem All2.cons_right {y : β} (h : All2 R l (y :: m)) : ∃ x l', l = x :: l' ∧ R x y ∧ All2 R l' m := by
  cases l with
  | nil => have := h.1; simp at this
  | cons x l' => exact ⟨x, l', rfl, h.head, h.tail⟩
theorem All2.mono (h : All2 R l m) (hr : ∀ x y, R x y → R' x y) : All2 R' l m := ⟨h.1, fun j x y hx hy => hr _ _ (h.2 j x y hx hy)⟩
theorem All2.mono' (h : All2 R l m) (hr : ∀ x ∈ l, ∀ y ∈ m, R x y → R' x y) : All2 R' l m := ⟨h.1, fun j x y hx hy => hr _ (List.mem_of_getElem? hx) _ (List.mem_of_getElem? hy) (h.2 j x y hx hy)⟩
theorem All2.append (h : All2 R l m) (h' : All2 R l' m') : All2 R (l ++ l') (m ++ m') := by
  refine ⟨by simp [h.1, h'.1], fun j x y hx hy => ?_⟩
  by_cases hj : j < l.length
  · rw [List.getElem?_append_left hj] at hx
    rw [List.getElem?_append_left (by rw [← h.1]; exact hj)] at hy
    exact h.2 j x y hx hy
  · rw [List.getElem?_append_right (by omega)] at hx
    rw [List.getElem?_append_right (by rw [← h.1]; omega)] at hy
    rw [← h.1] at hy
    exact h'.2 _ x y hx hy
theorem All2.take (h : All2 R l m) (n : Nat) : All2 R (l.take n) (m.take n) := by
  refine ⟨by simp [h.1], fun j x y hx hy => ?_⟩
  rw [List.getElem?_take] at hx hy
  split at hx
  · rename_i hj; simp only [hj, if_true] at hy; exact h.2 j x y hx hy
  · cases hx
theorem All2.drop (h : All2 R l m) (n : Nat) : All2 R (l.drop n) (m.drop n) := by
  refine ⟨by simp [h.1], fun j x y hx hy => ?_⟩
  rw [List.getElem?_drop] at hx hy
  exact h.2 _ x y hx hy
theorem All2.get (h : All2 R l m) {j : Nat} {y : β} (hy : m[j]? = some y) : ∃ x, l[j]? = some x ∧ R x y := by
  have hj : j < m.length := (List.getElem?_eq_some_iff.1 hy).1
  have hl : j < l.length := by rw [h.1]; exact hj
  exact ⟨l[j], by simp [hl], h.2 j _ _ (by simp [hl]) hy⟩
theorem All2.set (h : All2 R l m) (j : Nat) {x : α} {y : β} (hr : R x y) : All2 R (l.set j x) (m.set j y) := by
  refine ⟨by simp [h.1], fun i u v hu hv => ?_⟩
  rw [List.getElem?_set] at hu hv
  split at hu
  · rename_i hij
    simp only [hij, if_true] at hv
    split at hu
    · split at hv
      · cases hu; cases hv; exact hr
      · cases hv
    · cases hu
  · rename_i hij; simp only [hij, if_false] at hv; exact h.2 i u v hu hv
end

/-! ### data -/
inductive Kd where
  | int (k : IntKind)
  | bool
  | sl (ks : List Kd)
  | ref
inductive C where
  | int (k : IntKind) (n : Int)
  | bool (b : Bool)
  | sq (ks : List Kd) (rows : List (List C))
  | ptr (cells : List C)
  | fn (f : Nat) (cs : List C)
def C.kd : C → Kd
  | .int k _ => .int k
  | .bool _ => .bool
  | .sq ks _ => .sl ks
  | .ptr _ => .ref
  | .fn _ _ => .ref

/-- a value that reads, in the blocks of S, as this datum -/
inductive Rd (w : World) (S : Nat → Prop) : Value → C → Prop
  | int (k n) : Rd w S (.int k n) (.int k n)
  | bool (b) : Rd w S (.bool b) (.bool b)
  | nil (ks) : Rd w S (.slice none 0 0) (.sq ks [])
  | sq (a : Addr) (n cap : Nat) (ks : List Kd) (rows : List (List C)) (xs : List Value) (hn : rows.length = n) (hc : n ≤ cap) (he : ∀ r ∈ rows, r.map C.kd = ks)
      (hS : xs ≠ [] → S a.block) (hl : xs.length = rows.flatten.length) (hr : ∀ (j : Nat) v, xs[j]? = some v → w.cell? (a.add j) = some v)
      (hd : ∀ (j : Nat) v c, xs[j]? = some v → rows.flatten[j]? = some c → Rd w S v c) : Rd w S (.slice (some a) n cap) (.sq ks rows)
  | ptr (a : Addr) (cells : List C) (xs : List Value) (hS : xs ≠ [] → S a.block) (hl : xs.length = cells.length) (hr : ∀ (j : Nat) v, xs[j]? = some v → w.cell? (a.add j) = some v)
      (hd : ∀ (j : Nat) v c, xs[j]? = some v → cells[j]? = some c → Rd w S v c) : Rd w S (.pointer (some a)) (.ptr cells)
  | fn (f : Nat) (cs : List C) (xs : List Value) (hl : xs.length = cs.length) (hd : ∀ (j : Nat) v c, xs[j]? = some v → cs[j]? = some c → Rd w S v c) : Rd w S (.func (.func f) #[] xs.toArray) (.fn f cs)

theorem add_block (a : Addr) (j : Nat) : (a.add j).block = a.block := by unfold Addr.add; split <;> rfl
theorem Rd.mono {w w' : World} {S S' : Nat → Prop} {v : Value} {c : C} (h : Rd w S v c) (hs : ∀ b, b < w.heap.size → S b → S' b) (hc : ∀ a u, S a.block → w.cell? a = some u → w'.cell? a = some u) : Rd w' S' v c := by
  induction h with
  | int k n => exact .int k n
  | bool b => exact .bool b
  | nil ks => exact .nil ks
  | sq a n cap ks rows xs hn hcap he hS hl hr hd ih =>
    have hne : ∀ (j : Nat) v, xs[j]? = some v → xs ≠ [] := by
      intro j v hv e; subst e; simp at hv
    refine .sq a n cap ks rows xs hn hcap he (fun h => hs _ ?_ (hS h)) hl (fun j v hv => ?_) (fun j v c hv hc' => ih j v c hv hc')
    · cases xs with
      | nil => exact absurd rfl h
      | cons y ys =>
        have := World.block_lt_of_cell? w _ (hr 0 y rfl)
        rwa [add_block] at this
    · exact hc _ _ (by rw [add_block]; exact hS (hne j v hv)) (hr j v hv)
  | ptr a cells xs hS hl hr hd ih =>
    have hne : ∀ (j : Nat) v, xs[j]? = some v → xs ≠ [] := by
      intro j v hv e; subst e; simp at hv
    refine .ptr a cells xs (fun h => hs _ ?_ (hS h)) hl (fun j v hv => ?_) (fun j v c hv hc' => ih j v c hv hc')
    · cases xs with
      | nil => exact absurd rfl h
      | cons y ys =>
        have := World.block_lt_of_cell? w _ (hr 0 y rfl)
        rwa [add_block] at this
    · exact hc _ _ (by rw [add_block]; exact hS (hne j v hv)) (hr j v hv)
  | fn f cs xs hl hd ih => exact .fn f cs xs hl (fun j v c hv hc' => ih j v c hv hc')

theorem Rd.oneCell {w : World} {S : Nat → Prop} {v : Value} {c : C} (h : Rd w S v c) : v.oneCell' = true := by cases h <;> rfl
theorem Rd.int_inv {w : World} {S : Nat → Prop} {v : Value} {k : IntKind} {n : Int} (h : Rd w S v (.int k n)) : v = .int k n := by cases h; rfl
theorem Rd.bool_inv {w : World} {S : Nat → Prop} {v : Value} {b : Bool} (h : Rd w S v (.bool b)) : v = .bool b := by cases h; rfl

/-! ### worlds: what may have changed -/
structure Ext (w w' : World) (M : Nat → Prop) : Prop where
  os : w'.os = w.os
  output : w'.output = w.output
  size : w.heap.size ≤ w'.heap.size
  block : ∀ b, b < w.heap.size → ¬ M b → w'.heap[b]? = w.heap[b]?
  frozen : ∀ a, w'.frozen? a = w.frozen? a
def NoM : Nat → Prop := fun _ => False
section
variable {w w' w'' : World} {M M' : Nat → Prop}
theorem Ext.refl (w : World) (M : Nat → Prop) : Ext w w M := ⟨rfl, rfl, Nat.le_refl _, fun _ _ _ => rfl, fun _ => rfl⟩
theorem Ext.trans (h : Ext w w' M) (h' : Ext w' w'' M') (hm : ∀ b, M' b → M b ∨ w.heap.size ≤ b) : Ext w w'' M :=
  ⟨h'.os.trans h.os, h'.output.trans h.output, Nat.le_trans h.size h'.size,
   fun b hb hM => (h'.block b (Nat.lt_of_lt_of_le hb h.size) (fun hm' => (hm b hm').elim hM (fun hle => by omega))).trans (h.block b hb hM),
   fun a => (h'.frozen a).trans (h.frozen a)⟩
theorem Ext.mono (h : Ext w w' M) (hm : ∀ b, M b → M' b) : Ext w w' M' := ⟨h.os, h.output, h.size, fun b hb hM => h.block b hb (fun hb' => hM (hm b hb')), h.frozen⟩
theorem Ext.cell (h : Ext w w' M) {a : Addr} {v : Value} (hM : ¬ M a.block) (hc : w.cell? a = some v) : w'.cell? a = some v := by
  have hb := h.block a.block (World.block_lt_of_cell? w a hc) hM
  rw [World.cell?_of_block hb]; exact hc
theorem Ext.drew (h : Ext w w' M) : Ext w w'.drew M := ⟨h.os, h.output, h.size, h.block, h.frozen⟩
theorem Ext.alloc (w : World) (M : Nat → Prop) (c : Array Value) (t : TypeId) : Ext w (w.alloc (.cells c t)) M :=
  ⟨rfl, rfl, by simp, fun b hb _ => (by show (w.heap.push _)[b]? = _; simp [Array.getElem?_push, Nat.ne_of_lt hb]), fun a => frozen?_alloc_cells w c t a⟩
theorem Ext.setRow (w : World) (M : Nat → Prop) (g : Nat) (cs cur : Array Value) (t : TypeId) (hg : w.heap[g]? = some (.cells cur t (0, 0))) (hM : M g) : Ext w (w.setRow g cs) M := by
  refine ⟨rfl, rfl, by simp, fun b _ hb => setRow_other w g b cs (fun e => hb (e ▸ hM)), fun a => ?_⟩
  by_cases h : a.block = g
  · simp [World.frozen?, h, setRow_heap w g cur cs t _ hg, hg]
  · simp [World.frozen?, setRow_other w g a.block cs h]
end
theorem Ext.grown {w w' : World} (h : Ext w w' NoM) : Grown w w' := by
  refine ⟨⟨h.os, h.output, fun i hi => ?_⟩, h.frozen, h.size⟩
  rw [h.block i hi (fun f => f)]
  cases e : w.heap[i]? with
  | none => rfl
  | some o =>
    cases o <;> simp

/-! ### abstract states -/
inductive Sc where
  | any
  | und
  | int (k : IntKind) (n : Int)
  | bool (b : Bool)
  | ro (ks : List Kd) (rows : List (List C))
  | vw (id : Nat) (ks : List Kd) (rows : List (List C))
  | root (id : Nat)
  | nil
  | bx (id off : Nat)
  | rp (cells : List C)
  | vp (id : Nat) (cells : List C)
  | ep (id i off : Nat)
  | fn (f : Nat) (caps : List (Bool × List C))
  | fv (id n : Nat)
  | xr (ks : List Kd) (rows : List (List C))
  | xp (cells : List C)
inductive V where
  | one (s : Sc)
  | agg (ss : List Sc)
  | tup (vs : List (Bool × List Sc))
inductive Ob where
  | row (ty : Nat) (ks : List Kd) (rows : List (List C))
  | box (ss : List Sc)
structure St where
  sl : List (Nat × V)
  ob : List (Nat × Ob)
def look {β : Type} : List (Nat × β) → Nat → Option β
  | [], _ => none
  | (k, x) :: r, t => if k = t then some x else look r t
def drp {β : Type} : List (Nat × β) → Nat → List (Nat × β)
  | [], _ => []
  | (k, x) :: r, t => if k = t then drp r t else (k, x) :: drp r t

def blk : Value → Option Nat
  | .slice (some a) _ _ => some a.block
  | .pointer (some a) => some a.block
  | _ => none
/-- the blocks that the call owns -/
def Own (ob : List (Nat × Ob)) (ρ : Nat → Value) (b : Nat) : Prop := ∃ id o, look ob id = some o ∧ blk (ρ id) = some b

/-- the parameters of a call: what it may read of old (S), the world at its entry, the old blocks that it may change -/
structure Cx where
  S : Nat → Prop
  w0 : World
  M : Nat → Prop
  F : Nat → Option Value
  hv : Bool
def noF : Nat → Option Value := fun _ => none
/-- the old blocks that it may own: none, where whole numbers may change in the old blocks -/
def Cx.Mo (x : Cx) (b : Nat) : Prop := x.M b ∧ x.hv = false
/-- a value that stays, or a whole number that becomes another of its kind -/
def IntCh (u u' : Value) : Prop := u' = u ∨ ∃ k n m, u = .int k n ∧ u' = .int k m
structure Grow (x : Cx) (w : World) : Prop extends Ext x.w0 w x.M where
  hold : x.hv = true → ∀ a u, x.M a.block → x.w0.cell? a = some u → ∃ u', w.cell? a = some u' ∧ IntCh u u'
theorem Grow.trans {x : Cx} {w w' : World} {M' : Nat → Prop} (h : Grow x w) (hE : Ext w w' M') (hm : ∀ b, M' b → x.Mo b ∨ x.w0.heap.size ≤ b) : Grow x w' := by
  refine ⟨h.toExt.trans hE fun b hb => (hm b hb).imp (fun h => h.1) id, fun hv a u ha hu => ?_⟩
  obtain ⟨u', h1, h2⟩ := h.hold hv a u ha hu
  refine ⟨u', hE.cell (fun hb => ?_) h1, h2⟩
  rcases hm _ hb with h3 | h3
  · rw [h3.2] at hv; cases hv
  · have := World.block_lt_of_cell? _ _ hu; omega
theorem Grow.refl (x : Cx) : Grow x x.w0 := ⟨Ext.refl _ _, fun _ _ u _ hu => ⟨u, hu, .inl rfl⟩⟩
def Cx.U (x : Cx) (ob : List (Nat × Ob)) (ρ : Nat → Value) (b : Nat) : Prop := (x.S b ∨ x.M b ∨ x.w0.heap.size ≤ b) ∧ ¬ Own ob ρ b

/-- old memory that the call does not change and that no data of its own lie in -/
def Xo (U : Nat → Prop) (ob : List (Nat × Ob)) (ρ : Nat → Value) (b : Nat) : Prop := ¬ U b ∧ ¬ Own ob ρ b
def IsRow (ob : List (Nat × Ob)) (id : Nat) : Prop := ∃ ty ks rows, look ob id = some (.row ty ks rows)
/-- a part of a value: one cell, or a struct -/
def CapRel (w : World) (S : Nat → Prop) (v : Value) (p : Bool × List C) : Prop :=
  match p with
  | (true, cs) => ∃ vs : List Value, v = .agg vs.toArray ∧ All2 (Rd w S) vs cs
  | (false, [c]) => Rd w S v c
  | _ => False

def SRel (w : World) (U : Nat → Prop) (ob : List (Nat × Ob)) (ρ : Nat → Value) (v : Value) : Sc → Prop
  | .any => True
  | .und => v = undef
  | .int k n => v = .int k n
  | .bool b => v = .bool b
  | .ro ks rows => Rd w U v (.sq ks rows)
  | .vw id ks rows => Rd w (fun b => U b ∨ blk (ρ id) = some b) v (.sq ks rows) ∧ IsRow ob id
  | .root id => v = ρ id ∧ (look ob id).isSome
  | .nil => v = .slice none 0 0
  | .bx id off => ∃ b, ρ id = .pointer (some ⟨b, 0, none⟩) ∧ v = .pointer (some ⟨b, off, none⟩) ∧ (look ob id).isSome
  | .rp cells => ∃ a, v = .pointer (some a) ∧ (cells ≠ [] → U a.block) ∧ ∀ (j : Nat) c, cells[j]? = some c → ∃ u, w.cell? (a.add j) = some u ∧ Rd w U u c
  | .vp id cells => ∃ a, v = .pointer (some a) ∧ (cells ≠ [] → U a.block ∨ blk (ρ id) = some a.block) ∧ IsRow ob id ∧ ∀ (j : Nat) c, cells[j]? = some c → ∃ u, w.cell? (a.add j) = some u ∧ Rd w (fun b => U b ∨ blk (ρ id) = some b) u c
  | .ep id i off => ∃ g n cap ty ks rows, look ob id = some (.row ty ks rows) ∧ ρ id = .slice (some ⟨g, 0, none⟩) n cap ∧ v = .pointer (some ⟨g, i * ks.length + off, none⟩)
  | .fn f caps => ∃ vs : List Value, v = .func (.func f) #[] vs.toArray ∧ All2 (CapRel w U) vs caps
  | .fv id n => ∃ g m cap ty ks rows, look ob id = some (.row ty ks rows) ∧ ρ id = .slice (some ⟨g, 0, none⟩) m cap ∧ n ≤ m ∧ v = .slice (some ⟨g, 0, none⟩) n cap
  | .xr ks rows => Rd w (Xo U ob ρ) v (.sq ks rows)
  | .xp cells => ∃ a, v = .pointer (some a) ∧ (cells ≠ [] → Xo U ob ρ a.block) ∧ ∀ (j : Nat) c, cells[j]? = some c → ∃ u, w.cell? (a.add j) = some u ∧ Rd w (Xo U ob ρ) u c

def PRel (w : World) (U : Nat → Prop) (ob : List (Nat × Ob)) (ρ : Nat → Value) (v : Value) : Bool × List Sc → Prop
  | (true, ss) => ∃ us : List Value, v = .agg us.toArray ∧ All2 (SRel w U ob ρ) us ss
  | (false, [s]) => SRel w U ob ρ v s
  | _ => False
theorem PRel.agg_iff {w : World} {U : Nat → Prop} {ob : List (Nat × Ob)} {ρ : Nat → Value} {v : Value} {ss : List Sc} : PRel w U ob ρ v (true, ss) ↔ ∃ us : List Value, v = .agg us.toArray ∧ All2 (SRel w U ob ρ) us ss := Iff.rfl
theorem PRel.one_inv {w : World} {U : Nat → Prop} {ob : List (Nat × Ob)} {ρ : Nat → Value} {v : Value} {ss : List Sc} (h : PRel w U ob ρ v (false, ss)) : ∃ s, ss = [s] ∧ SRel w U ob ρ v s := by
  cases ss with
  | nil => exact h.elim
  | cons s r =>
    cases r with
    | nil => exact ⟨s, rfl, h⟩
    | cons _ _ => exact h.elim
def VRel (w : World) (U : Nat → Prop) (ob : List (Nat × Ob)) (ρ : Nat → Value) (v : Value) : V → Prop
  | .one s => SRel w U ob ρ v s
  | .agg ss => ∃ vs : List Value, v = .agg vs.toArray ∧ All2 (SRel w U ob ρ) vs ss
  | .tup ps => ∃ vs : List Value, v = .tuple vs.toArray ∧ All2 (PRel w U ob ρ) vs ps

def ORel (w : World) (U : Nat → Prop) (ob : List (Nat × Ob)) (ρ : Nat → Value) (v : Value) : Ob → Prop
  | .row ty ks rows => ∃ xs, w.ownsRow 0 ty ks.length v rows.length xs ∧ (∀ r ∈ rows, r.map C.kd = ks) ∧ All2 (Rd w U) xs rows.flatten
  | .box ss => ∃ b cs ty, v = .pointer (some ⟨b, 0, none⟩) ∧ w.heap[b]? = some (.cells (List.toArray cs) ty (0, 0)) ∧ All2 (fun u s => u.oneCell' = true ∧ SRel w U ob ρ u s) cs ss

structure Rel (x : Cx) (σ : St) (ρ : Nat → Value) (a : Act) (w : World) : Prop where
  slots : ∀ t V, look σ.sl t = some V → VRel w (x.U σ.ob ρ) σ.ob ρ (a.tmps.getD t undef) V
  objs : ∀ id o, look σ.ob id = some o → ORel w (x.U σ.ob ρ) σ.ob ρ (ρ id) o
  sep : ∀ i j oi oj b, look σ.ob i = some oi → look σ.ob j = some oj → blk (ρ i) = some b → blk (ρ j) = some b → i = j
  fresh : ∀ i o b, look σ.ob i = some o → blk (ρ i) = some b → x.w0.heap.size ≤ b ∨ x.Mo b
  grow : Grow x w
  defers : a.defers = []
  fix : ∀ j v, x.F j = some v → 500000 ≤ j ∧ (look σ.ob j).isSome ∧ ρ j = v

end Go.Vq
