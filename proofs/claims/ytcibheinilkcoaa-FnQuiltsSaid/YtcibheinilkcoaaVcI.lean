/- Part I of the small logic: the operations that lay or change memory do what is said of them. No conditions. -/
import Derived.Test.YtcibheinilkcoaaVcH
namespace Go.Vq
open Go.RowKit
section
variable {P : Program} {x : Cx} {σ : St} {ρ : Nat → Value} {a : Act} {w : World} {o : Oper} {ty : List (Nat × Td)} {K : St → Prop}

theorem Rel.one (h : Rel x σ ρ a w) : ∀ j o, look σ.ob j = some o → (ρ j).oneCell' = true := fun j o ho => (h.objs j o ho).oneCell
theorem heap_new (w : World) (o : Obj) : (w.alloc o).heap[w.heap.size]? = some o := by
  show (w.heap.push o)[w.heap.size]? = _
  simp

theorem sound_alloc (hty : TyOk P ty) (h : Rel x σ ρ a w) {t : TypeId} {d : Nat} (ho : o.op = .alloc t) (hdst : o.dst = some d) (hd : d < a.tmps.size) (hs : eff ty o σ K) : EffOk P x a w o K := by
  simp only [eff, ho, hdst] at hs
  split at hs
  · rename_i td hl
    obtain ⟨hno, hs⟩ := hs
    obtain ⟨i, ds, hi, hu, hsz, _, ⟨z, hz, hz2, _⟩, _⟩ := tdB.info (hty.get hl)
    have hrel := Rel.new (o' := .box (td.ks.map Kd.zeroS)) (v' := .pointer (some ⟨w.heap.size, 0, none⟩)) h hno (Ext.alloc w NoM z.cells t) (fun b hb => by cases hb; exact Nat.le_refl _)
      ⟨w.heap.size, z.cells.toList, t, rfl, by rw [heap_new, Array.toArray_toList], zeros_rel hz2⟩
    refine ⟨_, upd ρ d (.pointer (some ⟨w.heap.size, 0, none⟩)), w.alloc (.cells z.cells t), hs, fun _ => Ext.alloc w NoM z.cells t, .inl ⟨.pointer (some ⟨w.heap.size, 0, none⟩), ?_, ?_⟩⟩
    · unfold execOp; rw [ho]
      simp only [Instr.alloc, Sem.run_bind, zeroValue, typeInfo, run_program, hi, Sem.run_pure, Result.andThen_ok, hz, newVar, newRow, run_newObj]
      rfl
    · have := hrel.put (d := some d) (by simp [dstOk, hd]) (V := .one (.bx d 0)) (v := .pointer (some ⟨w.heap.size, 0, none⟩)) ⟨w.heap.size, by simp [upd], rfl, by simp [look_cons]⟩
      rw [hdst]; exact this
  · exact hs.elim

theorem sound_box (h : Rel x σ ρ a w) {t : TypeId} {v : Operand} {d : Nat} (ho : o.op = .box t v) (hdst : o.dst = some d) (hd : d < a.tmps.size) (hs : eff ty o σ K) : EffOk P x a w o K := by
  simp only [eff, ho, hdst] at hs
  have hv := ev_rel h v
  split at hs
  · rename_i ss hss
    obtain ⟨hno, hkn, hs⟩ := hs
    have hcr := cells_rel hv hss hkn h.one
    have hE : Ext w (w.alloc (.cells (a.eval v).cells t)) NoM := Ext.alloc w NoM _ t
    -- what hangs on objects: their relations persist over the new block
    have hU := Rel.U_step (x := x) (σ := σ) (ρ := ρ) (w := w) (ob' := (d, Ob.box ss) :: σ.ob) (id := d) (v' := .pointer (some ⟨w.heap.size, 0, none⟩)) (fun j hj hs => by rwa [look_cons, if_neg (Ne.symm hj)] at hs) (fun b hb => by cases hb; exact .inl (Nat.le_refl _))
    have hrel := Rel.new (o' := .box ss) (v' := .pointer (some ⟨w.heap.size, 0, none⟩)) h hno hE (fun b hb => by cases hb; exact Nat.le_refl _)
      ⟨w.heap.size, (a.eval v).cells.toList, t, rfl, by rw [heap_new, Array.toArray_toList], hcr.mono fun u s hus => ⟨hus.1, SRel.step (fun j => j ≠ d) none hU (fun _ _ e => by cases e)
        (fun j hj o ho => ⟨o, by rw [look_cons, if_neg (Ne.symm hj), ho], fun _ _ _ e => e⟩) (fun j hj => by simp [upd, hj]) (fun _ _ _ _ _ e => by cases e) (fun a u _ hu => hE.cell (fun f => f) hu) hus.2
        (fun j hj e => by subst e; have := hus.2.used hj; simp [hno] at this)⟩⟩
    refine ⟨_, upd ρ d (.pointer (some ⟨w.heap.size, 0, none⟩)), w.alloc (.cells (a.eval v).cells t), hs, fun _ => hE, .inl ⟨.pointer (some ⟨w.heap.size, 0, none⟩), ?_, ?_⟩⟩
    · unfold execOp; rw [ho]
      simp only [Instr.box, Sem.run_bind, Sem.run_pure, Result.andThen_ok, newVar, newRow, run_newObj]
      rfl
    · have := hrel.put (d := some d) (by simp [dstOk, hd]) (V := .one (.bx d 0)) (v := .pointer (some ⟨w.heap.size, 0, none⟩)) ⟨w.heap.size, by simp [upd], rfl, by simp [look_cons]⟩
      rw [hdst]; exact this
  · exact hs.elim
end
end Go.Vq
