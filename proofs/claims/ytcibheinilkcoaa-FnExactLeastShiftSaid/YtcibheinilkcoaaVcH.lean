/- Part H of the small logic: operations that lay or change memory. No conditions. -/
import Derived.Test.YtcibheinilkcoaaVcG
import Derived.Great.FillDense
import Derived.Great.BuildSlice
import Derived.Deep.AppendSrc
import Derived.Deep.Upon
import Derived.Laws.MakeOwn
namespace Go.Vq
open Go.RowKit

def V.scs : V → Option (List Sc)
  | .one s => some [s]
  | .agg ss => some ss
  | .tup _ => none
def allKnown : List Sc → Prop
  | [] => True
  | s :: r => s.known ∧ allKnown r
theorem allKnown.get : ∀ {ss : List Sc}, allKnown ss → ∀ s ∈ ss, s.known
  | [], _, _, h => by cases h
  | s :: r, h, t, ht => by
    rcases List.mem_cons.1 ht with rfl | ht
    · exact h.1
    · exact h.2.get t ht
def Sc.toC (k : Kd) : Sc → Option C
  | .int κ n => some (.int κ n)
  | .bool b => some (.bool b)
  | .ro ks rows => some (.sq ks rows)
  | .nil => match k with
    | .sl ks => some (.sq ks [])
    | _ => none
  | _ => none
def toCs : List Kd → List Sc → Option (List C)
  | [], [] => some []
  | k :: ks, s :: ss => match s.toC k, toCs ks ss with
    | some c, some cs => some (c :: cs)
    | _, _ => none
  | _, _ => none
/-- a row of a slice, out of the parts of a value -/
def rowOf (ks : List Kd) (V : V) (K : List C → Prop) : Prop := match V.scs with
  | some ss => match toCs ks ss with
    | some row => row.map C.kd = ks ∧ K row
    | none => False
  | none => False

section
variable {w : World} {U : Nat → Prop} {ob : List (Nat × Ob)} {ρ : Nat → Value}
theorem SRel.oneCell {v : Value} {s : Sc} (h : SRel w U ob ρ v s) (hk : s.known) (hρ : ∀ j o, look ob j = some o → (ρ j).oneCell' = true) : v.oneCell' = true := by
  cases s with
  | any => exact hk.elim
  | und => exact hk.elim
  | int k n => cases h; rfl
  | bool b => cases h; rfl
  | ro ks rows => exact Rd.oneCell h
  | vw id ks rows => exact Rd.oneCell h.1
  | root id =>
    obtain ⟨o, ho⟩ := Option.isSome_iff_exists.1 h.2
    rw [h.1]; exact hρ id o ho
  | nil => cases h; rfl
  | bx id off => obtain ⟨_, _, h, _⟩ := h; rw [h]; rfl
  | rp cs => obtain ⟨_, h, _⟩ := h; rw [h]; rfl
  | vp id cs => obtain ⟨_, h, _⟩ := h; rw [h]; rfl
  | ep id i off => obtain ⟨_, _, _, _, _, _, _, _, h⟩ := h; rw [h]; rfl
  | fv id n => obtain ⟨_, _, _, _, _, _, _, _, _, h⟩ := h; rw [h]; rfl
  | fn f caps => obtain ⟨_, h, _⟩ := h; rw [h]; rfl
  | xr ks rows => exact Rd.oneCell h
  | xp cs => obtain ⟨_, h, _⟩ := h; rw [h]; rfl
theorem ORel.oneCell {v : Value} {o : Ob} (h : ORel w U ob ρ v o) : v.oneCell' = true := by
  cases o with
  | row ty ks rows =>
    obtain ⟨xs, h1, _⟩ := h
    rcases h1.2 with ⟨rfl, _⟩ | ⟨g, cap, cur, rfl, _⟩ <;> rfl
  | box ss => obtain ⟨b, cs, ty, rfl, _⟩ := h; rfl
theorem cells_one {v : Value} (h : v.oneCell' = true) : v.cells.toList = [v] := by cases v <;> first | rfl | simp [Value.oneCell'] at h
theorem cells_rel {v : Value} {V : V} {ss : List Sc} (h : VRel w U ob ρ v V) (hs : V.scs = some ss) (hk : allKnown ss) (hρ : ∀ j o, look ob j = some o → (ρ j).oneCell' = true) :
    All2 (fun u s => u.oneCell' = true ∧ SRel w U ob ρ u s) v.cells.toList ss := by
  cases V with
  | one s =>
    simp only [V.scs, Option.some.injEq] at hs; subst hs
    have h1 := SRel.oneCell h hk.1 hρ
    rw [cells_one h1]
    exact All2.nil.cons ⟨h1, h⟩
  | agg ss' =>
    simp only [V.scs, Option.some.injEq] at hs; subst hs
    obtain ⟨vs, rfl, hr⟩ := h
    exact hr.mono' fun u _ s hs' h => ⟨SRel.oneCell h (hk.get s hs') hρ, h⟩
  | tup ps => simp [V.scs] at hs
theorem toCs_rel : ∀ {ks : List Kd} {ss : List Sc} {cs : List C} {vs : List Value}, toCs ks ss = some cs → All2 (SRel w U ob ρ) vs ss → All2 (Rd w U) vs cs
  | [], [], cs, vs, h, hr => by simp [toCs] at h; subst h; rw [hr.nil_right]; exact All2.nil
  | k :: ks, s :: ss, cs, vs, h, hr => by
    obtain ⟨u, vs', rfl, h1, h2⟩ := hr.cons_right
    simp only [toCs] at h
    split at h
    · rename_i c cs' hc hcs
      cases h
      refine (toCs_rel hcs h2).cons ?_
      cases s with
      | int κ n => simp [Sc.toC] at hc; subst hc; cases h1; exact .int _ _
      | bool b => simp [Sc.toC] at hc; subst hc; cases h1; exact .bool _
      | ro ks rows => simp [Sc.toC] at hc; subst hc; exact h1
      | nil =>
        simp only [Sc.toC] at hc
        split at hc
        · cases hc; cases h1; exact .nil _
        · cases hc
      | _ => simp [Sc.toC] at hc
    · cases h
  | [], _ :: _, _, _, h, _ => by simp [toCs] at h
  | _ :: _, [], _, _, h, _ => by simp [toCs] at h
theorem toC_known {k : Kd} {s : Sc} {c : C} (h : s.toC k = some c) : s.known := by cases s <;> simp [Sc.toC] at h <;> trivial
theorem toCs_known : ∀ {ks : List Kd} {ss : List Sc} {cs : List C}, toCs ks ss = some cs → allKnown ss
  | [], [], _, _ => trivial
  | k :: ks, s :: ss, cs, h => by
    simp only [toCs] at h
    split at h
    · rename_i c cs' hc hcs
      exact ⟨toC_known hc, toCs_known hcs⟩
    · cases h
  | [], _ :: _, _, h => by simp [toCs] at h
  | _ :: _, [], _, h => by simp [toCs] at h
theorem rowOf_sound {ks : List Kd} {V : V} {K : List C → Prop} {v : Value} (h : rowOf ks V K) (hv : VRel w U ob ρ v V) (hρ : ∀ j o, look ob j = some o → (ρ j).oneCell' = true) :
    ∃ row, row.map C.kd = ks ∧ K row ∧ All2 (fun u c => u.oneCell' = true ∧ Rd w U u c) v.cells.toList row := by
  unfold rowOf at h
  split at h
  · rename_i ss hs
    split at h
    · rename_i row hrow
      have h1 := cells_rel hv hs (toCs_known hrow) hρ
      have h2 := toCs_rel hrow (h1.mono fun _ _ h => h.2)
      exact ⟨row, h.1, h.2, h2.1, fun j u c hu hc => ⟨(h2.2 j u c hu hc).oneCell, h2.2 j u c hu hc⟩⟩
    · exact h.elim
  · exact h.elim
theorem zeros_rel : ∀ {vs : List Value} {ks : List Kd}, zerosB vs ks = true → All2 (fun u s => u.oneCell' = true ∧ SRel w U ob ρ u s) vs (ks.map Kd.zeroS)
  | [], [], _ => All2.nil
  | v :: vs, k :: ks, h => by
    simp only [zerosB, Bool.and_eq_true] at h
    refine All2.cons ?_ (zeros_rel h.2)
    have h1 := h.1
    unfold Kd.zeroB at h1
    split at h1
    · simp only [Bool.and_eq_true, beq_iff_eq] at h1
      obtain ⟨rfl, rfl⟩ := h1
      exact ⟨rfl, rfl⟩
    · simp at h1; subst h1; exact ⟨rfl, rfl⟩
    · exact ⟨rfl, rfl⟩
    · cases h1
  | [], _ :: _, h => by simp [zerosB] at h
  | _ :: _, [], h => by simp [zerosB] at h
theorem zeros_rd {S : Nat → Prop} : ∀ {vs : List Value} {ks : List Kd}, zerosB vs ks = true → All2 (Rd w S) vs (ks.map Kd.zeroC)
  | [], [], _ => All2.nil
  | v :: vs, k :: ks, h => by
    simp only [zerosB, Bool.and_eq_true] at h
    refine All2.cons ?_ (zeros_rd h.2)
    have h1 := h.1
    unfold Kd.zeroB at h1
    split at h1
    · simp only [Bool.and_eq_true, beq_iff_eq] at h1
      obtain ⟨rfl, rfl⟩ := h1
      exact .int _ _
    · simp at h1; subst h1; exact .bool _
    · exact .nil _
    · cases h1
  | [], _ :: _, h => by simp [zerosB] at h
  | _ :: _, [], h => by simp [zerosB] at h
end

/-! ### what is asked -/
def Kd.flat : Kd → Bool
  | .sl _ => false
  | .ref => false
  | _ => true
/-- the rows that a slice reads as -/
def srcOf (ob : List (Nat × Ob)) : Sc → (List Kd → List (List C) → Prop) → Prop
  | .ro ks rows, K => K ks rows
  | .vw _ ks rows, K => ks.all Kd.flat = true ∧ K ks rows
  | .root id, K => match look ob id with
    | some (.row _ ks rows) => K ks rows
    | _ => False
  | _, _ => False
def rowsOf (ks : List Kd) : List V → (List (List C) → Prop) → Prop
  | [], K => K []
  | V :: Vs, K => rowOf ks V fun row => rowsOf ks Vs fun rows => K (row :: rows)
def effAppend (d : Td) (e : Nat) (dst : Nat) (σ : St) (s : V) (ks : List Kd) (rows' : List (List C)) (K : St → Prop) : Prop :=
  ks = d.ks ∧ 0 < d.ks.length ∧ 0 < d.bytes ∧ match s with
    | .one .nil => look σ.ob dst = none ∧ rows'.length * d.bytes ≤ 140737488355328 ∧ K ⟨(dst, .one (.root dst)) :: σ.sl, (dst, .row e d.ks rows') :: σ.ob⟩
    | .one (.root id) => match look σ.ob id with
      | some (.row e' ks' rows) => id < 500000 ∧ e' = e ∧ ks' = d.ks ∧ (rows.length + rows'.length) * d.bytes ≤ 140737488355328 ∧
          K ⟨(dst, .one (.root id)) :: mapV (V.kill true id) σ.sl, (id, .row e d.ks (rows ++ rows')) :: mapV (Ob.kill true id) σ.ob⟩
      | _ => False
    | .one (.fv id n) => match look σ.ob id with
      | some (.row e' ks' rows) => id < 500000 ∧ e' = e ∧ ks' = d.ks ∧ (n + rows'.length) * d.bytes ≤ 140737488355328 ∧
          K ⟨(dst, .one (.root id)) :: mapV (V.kill true id) σ.sl, (id, .row e d.ks (rows.take n ++ rows')) :: mapV (Ob.kill true id) σ.ob⟩
      | _ => False
    | _ => False
def eff (ty : List (Nat × Td)) (o : Oper) (σ : St) (K : St → Prop) : Prop := match o.op, o.dst with
  | .alloc t, some dst => match look ty t with
    | some d => look σ.ob dst = none ∧ K ⟨(dst, .one (.bx dst 0)) :: σ.sl, (dst, .box (d.ks.map Kd.zeroS)) :: σ.ob⟩
    | none => False
  | .box _ v, some dst => match (ev σ v).scs with
    | some ss => look σ.ob dst = none ∧ allKnown ss ∧ K ⟨(dst, .one (.bx dst 0)) :: σ.sl, (dst, .box ss) :: σ.ob⟩
    | none => False
  | .store t p v, none => match look ty t, (ev σ v).scs with
    | some d, some ss => match ev σ p with
      | .one (.bx id off) => match look σ.ob id with
        | some (.box old) => ss.length = d.ks.length ∧ off + ss.length ≤ old.length ∧ allKnown ss ∧ K ⟨σ.sl, (id, .box (old.take off ++ ss ++ old.drop (off + ss.length))) :: σ.ob⟩
        | _ => False
      | .one (.ep id i off) => match look σ.ob id with
        | some (.row e ks rows) => i < rows.length ∧ rowOf d.ks (ev σ v) fun new => allShape ks fun row => rows[i]? = some row → off + new.length ≤ row.length ∧
            (row.take off ++ new ++ row.drop (off + new.length)).map C.kd = ks ∧
            K ⟨mapV (V.kill false id) σ.sl, (id, .row e ks (rows.set i (row.take off ++ new ++ row.drop (off + new.length)))) :: mapV (Ob.kill false id) σ.ob⟩
        | _ => False
      | _ => False
    | _, _ => False
  | .makeSlice t n c, some dst => match look ty t, ev σ n, ev σ c with
    | some ⟨.slice e, _, _⟩, .one (.int _ n), .one (.int _ c) => match look ty e with
      | some d => look σ.ob dst = none ∧ n = c ∧ 0 ≤ n ∧ n * d.bytes ≤ 140737488355328 ∧ 0 < d.bytes ∧ K ⟨(dst, .one (.root dst)) :: σ.sl, (dst, .row e d.ks (List.replicate n.toNat (d.ks.map Kd.zeroC))) :: σ.ob⟩
      | none => False
    | _, _, _ => False
  | .buildSlice t len parts, some dst => match look ty t with
    | some ⟨.slice e, _, _⟩ => match look ty e with
      | some d => look σ.ob dst = none ∧ parts.toList.map (·.1) = List.range len ∧ len * d.ks.length ≤ 16777216 ∧ 0 < d.ks.length ∧
          rowsOf d.ks (parts.toList.map fun p => ev σ p.2) fun rows => K ⟨(dst, .one (.root dst)) :: σ.sl, (dst, .row e d.ks rows) :: σ.ob⟩
      | none => False
    | _ => False
  | .call c, some dst => match c.callee, c.args.toList, c.argTypes.toList with
    | .builtin .append, [s, y], [t, t'] => match look ty t, look ty t' with
      | some ⟨.slice e, _, _⟩, some ⟨.slice _, _, _⟩ => match look ty e, ev σ y with
        | some d, .one .nil => effAppend d e dst σ (ev σ s) d.ks [] K
        | some d, .one y => srcOf σ.ob y fun ks rows' => effAppend d e dst σ (ev σ s) ks rows' K
        | _, _ => False
      | _, _ => False
    | _, _, _ => False
  | _, _ => False

/-- does the operation change memory that is there? -/
def chgO (o : Oper) : Bool := match o.op with
  | .store _ _ _ => true
  | .call c => match c.callee with
    | .builtin .append => true
    | _ => false
  | _ => false
def EffOk (P : Program) (x : Cx) (a : Act) (w : World) (o : Oper) (K : St → Prop) : Prop :=
  ∃ σ' ρ' w', K σ' ∧ (chgO o = false → Ext w w' NoM) ∧ ((∃ v, (execOp a.eval o).run P w = .ok (.value v) w' ∧ Rel x σ' ρ' (a.put o.dst v) w') ∨ ((execOp a.eval o).run P w = .ok .skip w' ∧ Rel x σ' ρ' (a.put o.dst undef) w'))
/-! ### Part I of the small logic: the operations that lay or change memory do what is said of them. No conditions. -/
section
variable {P : Program} {x : Cx} {σ : St} {ρ : Nat → Value} {a : Act} {w : World} {o : Oper} {ty : List (Nat × Td)} {K : St → Prop}

theorem Rel.one (h : Rel x σ ρ a w) : ∀ j o, look σ.ob j = some o → (ρ j).oneCell' = true := fun j o ho => (h.objs j o ho).oneCell
theorem heap_new (w : World) (o : Obj) : (w.alloc o).heap[w.heap.size]? = some o := by
  show (w.heap.push o)[w.heap.size]? = _
  simp

theorem sound_alloc (hty : TyOk P ty) (h : Rel x σ ρ a w) {t : TypeId} {d : Nat} (ho : o.op = .alloc t) (hdst : o.dst = some d) (hd : d < a.tmps.size) (hs : eff ty o σ K) : EffOk P x a w o K := by
  simp only [eff, ho, hdst] at hs
  split at hs
  · rename_i td hl
    obtain ⟨hno, hs⟩ := hs
    obtain ⟨i, ds, hi, hu, hsz, _, ⟨z, hz, hz2, _⟩, _⟩ := tdB.info (hty.get hl)
    have hrel := Rel.new (o' := .box (td.ks.map Kd.zeroS)) (v' := .pointer (some ⟨w.heap.size, 0, none⟩)) h hno (Ext.alloc w NoM z.cells t) (fun b hb => by cases hb; exact Nat.le_refl _)
      ⟨w.heap.size, z.cells.toList, t, rfl, by rw [heap_new, Array.toArray_toList], zeros_rel hz2⟩
    refine ⟨_, upd ρ d (.pointer (some ⟨w.heap.size, 0, none⟩)), w.alloc (.cells z.cells t), hs, fun _ => Ext.alloc w NoM z.cells t, .inl ⟨.pointer (some ⟨w.heap.size, 0, none⟩), ?_, ?_⟩⟩
    · unfold execOp; rw [ho]
      simp only [Instr.alloc, Sem.run_bind, zeroValue, typeInfo, run_program, hi, Sem.run_pure, Result.andThen_ok, hz, newVar, newRow, run_newObj]
      rfl
    · have := hrel.put (d := some d) (by simp [dstOk, hd]) (V := .one (.bx d 0)) (v := .pointer (some ⟨w.heap.size, 0, none⟩)) ⟨w.heap.size, by simp [upd], rfl, by simp [look_cons]⟩
      rw [hdst]; exact this
  · exact hs.elim

theorem sound_box (h : Rel x σ ρ a w) {t : TypeId} {v : Operand} {d : Nat} (ho : o.op = .box t v) (hdst : o.dst = some d) (hd : d < a.tmps.size) (hs : eff ty o σ K) : EffOk P x a w o K := by
  simp only [eff, ho, hdst] at hs
  have hv := ev_rel h v
  split at hs
  · rename_i ss hss
    obtain ⟨hno, hkn, hs⟩ := hs
    have hcr := cells_rel hv hss hkn h.one
    have hE : Ext w (w.alloc (.cells (a.eval v).cells t)) NoM := Ext.alloc w NoM _ t
    -- what hangs on objects: their relations persist over the new block
    have hU := Rel.U_step (x := x) (σ := σ) (ρ := ρ) (w := w) (ob' := (d, Ob.box ss) :: σ.ob) (id := d) (v' := .pointer (some ⟨w.heap.size, 0, none⟩)) (fun j hj hs => by rwa [look_cons, if_neg (Ne.symm hj)] at hs) (fun b hb => by cases hb; exact .inl (Nat.le_refl _))
    have hrel := Rel.new (o' := .box ss) (v' := .pointer (some ⟨w.heap.size, 0, none⟩)) h hno hE (fun b hb => by cases hb; exact Nat.le_refl _)
      ⟨w.heap.size, (a.eval v).cells.toList, t, rfl, by rw [heap_new, Array.toArray_toList], hcr.mono fun u s hus => ⟨hus.1, SRel.step (fun j => j ≠ d) none hU (fun _ _ e => by cases e)
        (fun j hj o ho => ⟨o, by rw [look_cons, if_neg (Ne.symm hj), ho], fun _ _ _ e => e⟩) (fun j hj => by simp [upd, hj]) (fun _ _ _ _ _ e => by cases e) (fun a u _ hu => hE.cell (fun f => f) hu) (fun b _ hb => ⟨x.xo (h.fr_new fun b hb => by cases hb; exact Nat.le_refl _) hb, fun e => by cases e⟩) hus.2
        (fun j hj e => by subst e; have := hus.2.used hj; simp [hno] at this)⟩⟩
    refine ⟨_, upd ρ d (.pointer (some ⟨w.heap.size, 0, none⟩)), w.alloc (.cells (a.eval v).cells t), hs, fun _ => hE, .inl ⟨.pointer (some ⟨w.heap.size, 0, none⟩), ?_, ?_⟩⟩
    · unfold execOp; rw [ho]
      simp only [Instr.box, Sem.run_bind, Sem.run_pure, Result.andThen_ok, newVar, newRow, run_newObj]
      rfl
    · have := hrel.put (d := some d) (by simp [dstOk, hd]) (V := .one (.bx d 0)) (v := .pointer (some ⟨w.heap.size, 0, none⟩)) ⟨w.heap.size, by simp [upd], rfl, by simp [look_cons]⟩
      rw [hdst]; exact this
  · exact hs.elim
end
end Go.Vq
