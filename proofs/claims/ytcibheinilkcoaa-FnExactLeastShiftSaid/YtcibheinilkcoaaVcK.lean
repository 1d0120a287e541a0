/- Part K of the small logic: make, literals of slices, append. No conditions. -/
import Derived.Test.YtcibheinilkcoaaVcJ
namespace Go.Vq
open Go.RowKit
section
variable {P : Program} {x : Cx} {σ : St} {ρ : Nat → Value} {a : Act} {w w' : World} {o : Oper} {ty : List (Nat × Td)} {K : St → Prop}

theorem rep_flatten {α : Type} (l : List α) : ∀ (n j : Nat), (List.replicate n l).flatten[j]? = if j < n * l.length then l[j % l.length]? else none
  | 0, j => by simp
  | n + 1, j => by
    rw [List.replicate_succ, List.flatten_cons]
    by_cases h : j < l.length
    · rw [List.getElem?_append_left h, Nat.mod_eq_of_lt h, if_pos (by rw [Nat.add_mul]; omega)]
    · rw [List.getElem?_append_right (by omega), rep_flatten l n]
      have e : (j - l.length) % l.length = j % l.length := by
        rw [← Nat.mod_eq_sub_mod (by omega)]
      rw [e]
      by_cases h2 : j - l.length < n * l.length
      · rw [if_pos h2, if_pos (by rw [Nat.add_mul]; omega)]
      · rw [if_neg h2, if_neg (by rw [Nat.add_mul]; omega)]
theorem zeroC_kd (k : Kd) : k.zeroC.kd = k := by cases k <;> rfl

/-- a new row: what a state is after it -/
theorem new_row (h : Rel x σ ρ a w) {d e : Nat} {ks : List Kd} {rows : List (List C)} {cur : Array Value} {n cap : Nat} {xs : List Value} (hno : look σ.ob d = none) (hd : d < a.tmps.size) (hE : Ext w w' NoM)
    (hheap : w'.heap[w.heap.size]? = some (.cells cur e (0, 0))) (hn : rows.length = n) (hnc : n ≤ cap) (hcm : cap ≤ maxLen) (hcs : cur.size = cap * ks.length) (htake : cur.toList.take (n * ks.length) = xs)
    (hks : ∀ r ∈ rows, r.map C.kd = ks) (hx : All2 (Rd w (x.U σ.ob ρ)) xs rows.flatten) :
    Rel x ⟨(d, .one (.root d)) :: σ.sl, (d, .row e ks rows) :: σ.ob⟩ (upd ρ d (.slice (some ⟨w.heap.size, 0, none⟩) n cap)) (a.put (some d) (.slice (some ⟨w.heap.size, 0, none⟩) n cap)) w' := by
  have hU := Rel.U_step (x := x) (σ := σ) (ρ := ρ) (w := w) (ob' := (d, Ob.row e ks rows) :: σ.ob) (id := d) (v' := .slice (some ⟨w.heap.size, 0, none⟩) n cap) (fun j hj hs => by rwa [look_cons, if_neg (Ne.symm hj)] at hs) (fun b hb => by cases hb; exact .inl (Nat.le_refl _))
  have hm := kd_len hks
  have hrel := Rel.new (o' := .row e ks rows) (v' := .slice (some ⟨w.heap.size, 0, none⟩) n cap) h hno hE (fun b hb => by cases hb; exact Nat.le_refl _)
    ⟨xs, ⟨by rw [hx.1, flatten_len hm], .inr ⟨w.heap.size, cap, cur, by rw [hn], Nat.zero_le _, hheap, by omega, hcm, hcs, by rw [hn]; exact htake⟩⟩, hks, hx.mono fun u c hr => hr.mono hU fun ad u' _ hu => hE.cell (fun f => f) hu⟩
  exact hrel.put (d := some d) (by simp [dstOk, hd]) (V := .one (.root d)) ⟨by simp [upd], by simp [look_cons]⟩

theorem sound_makeSlice (hty : TyOk P ty) (h : Rel x σ ρ a w) {t : TypeId} {y z : Operand} {d : Nat} (ho : o.op = .makeSlice t y z) (hdst : o.dst = some d) (hd : d < a.tmps.size) (hs : eff ty o σ K) : EffOk P x a w o K := by
  simp only [eff, ho, hdst] at hs
  have hy := ev_rel h y
  have hz := ev_rel h z
  split at hs
  · rename_i e ks' by' k n k' c hl h1 h2; rw [h1] at hy; rw [h2] at hz
    obtain ⟨i, ds, hi, hu, _, _, _, hsh⟩ := tdB.info (hty.get hl)
    obtain rfl := shB.slice hsh
    split at hs
    · rename_i td hle
      obtain ⟨hno, rfl, h0, hb, hbp, hs⟩ := hs
      obtain ⟨ie, de, hie, hue, hsz, hby, ⟨zv, hzv, hzs, _⟩, _⟩ := tdB.info (hty.get hle)
      have h63 : n ≤ 9223372036854775807 := by
        have h3 : n * 1 ≤ n * td.bytes := Int.mul_le_mul_of_nonneg_left (by omega) h0
        omega
      have hmul : (ie.bytes : Int) * n ≤ 281474976710656 := by rw [hby, Int.mul_comm]; omega
      have hrun := run_make (P := P) w t e ie zv hu hie hzv k k' n n h0 (by omega) hmul h63
      have hzl : zv.cells.size = td.ks.length := by have := (zeros_rd (w := w) (S := fun _ => True) hzs).1; simpa using this
      have hmade : (madeCells zv.cells (n.toNat * ie.size)).size = n.toNat * td.ks.length := by simp [madeCells, hsz]
      refine ⟨_, upd ρ d (.slice (some ⟨w.heap.size, 0, none⟩) n.toNat n.toNat), w.alloc (.cells (madeCells zv.cells (n.toNat * ie.size)) e), hs, fun _ => Ext.alloc w NoM _ e, .inl ⟨.slice (some ⟨w.heap.size, 0, none⟩) n.toNat n.toNat, ?_, ?_⟩⟩
      · unfold execOp; rw [ho]
        simp only [hy.one_int, hz.one_int, Sem.run_bind, hrun, Result.andThen_ok, Sem.run_pure]
      · rw [hdst]
        refine new_row (cur := madeCells zv.cells (n.toNat * ie.size)) (xs := (madeCells zv.cells (n.toNat * ie.size)).toList) h hno hd (Ext.alloc w NoM _ e) (heap_new w _) (by simp) (Nat.le_refl _) (by unfold maxLen; omega) hmade ?_ (fun r hr => ?_) ?_
        · rw [List.take_of_length_le]; rw [Array.length_toList, hmade]; exact Nat.le_refl _
        · rw [List.eq_of_mem_replicate hr, List.map_map]
          conv => rhs; rw [← List.map_id td.ks]
          exact List.map_congr_left fun k _ => zeroC_kd k
        · have hz0 := zeros_rd (w := w) (S := x.U σ.ob ρ) hzs
          refine ⟨by rw [Array.length_toList, hmade, flatten_len (m := td.ks.length) (fun r hr => by rw [List.eq_of_mem_replicate hr]; simp)]; simp, fun j u c hu hc => ?_⟩
          rw [rep_flatten] at hc
          split at hc
          · rename_i hj
            simp only [List.length_map] at hc hj
            have hpos : 0 < td.ks.length := by
              rcases Nat.eq_zero_or_pos td.ks.length with h | h
              · rw [h] at hj; simp at hj
              · exact h
            have hu' : u = zv.cells[j % zv.cells.size]! := by
              have hj' : j < (madeCells zv.cells (n.toNat * ie.size)).size := by rw [hmade]; exact hj
              rw [Array.getElem?_toList, Array.getElem?_eq_getElem hj'] at hu
              simp [madeCells] at hu
              exact hu.symm
            have hlt : j % zv.cells.size < zv.cells.size := Nat.mod_lt _ (by rw [hzl]; exact hpos)
            refine hz0.2 (j % td.ks.length) u c ?_ hc
            rw [hu', Array.getElem?_toList, ← hzl, Array.getElem?_eq_getElem hlt]
            simp [hlt]
          · cases hc
    · exact hs.elim
  · exact hs.elim

theorem rowsOf_sound (hρ : ∀ j o, look σ.ob j = some o → (ρ j).oneCell' = true) {ks : List Kd} : ∀ {Vs : List V} {K : List (List C) → Prop} {vs : List Value}, rowsOf ks Vs K → All2 (VRel w (x.U σ.ob ρ) σ.ob ρ) vs Vs →
    ∃ rows, K rows ∧ rows.length = vs.length ∧ (∀ r ∈ rows, r.map C.kd = ks) ∧ (∀ v ∈ vs, v.cells.size = ks.length) ∧ All2 (fun u c => u.oneCell' = true ∧ Rd w (x.U σ.ob ρ) u c) (vs.flatMap fun v => v.cells.toList) rows.flatten
  | [], K, vs, h, hv => by
    rw [hv.nil_right]
    exact ⟨[], h, rfl, (fun r hr => absurd hr (by simp)), (fun r hr => absurd hr (by simp)), All2.nil⟩
  | V :: Vs, K, vs, h, hv => by
    obtain ⟨v, vs', rfl, h1, h2⟩ := hv.cons_right
    obtain ⟨row, hk, h, hr⟩ := rowOf_sound h h1 hρ
    obtain ⟨rows, hK, hl, hks, hsz, hx⟩ := rowsOf_sound hρ h h2
    refine ⟨row :: rows, hK, by simp [hl], fun r hr' => ?_, fun u hu => ?_, ?_⟩
    · rcases List.mem_cons.1 hr' with rfl | hr'
      · exact hk
      · exact hks r hr'
    · rcases List.mem_cons.1 hu with rfl | hu
      · have := hr.1; simp only [Array.length_toList] at this; rw [this, ← hk]; simp
      · exact hsz u hu
    · simp only [List.flatMap_cons, List.flatten_cons]
      exact hr.append hx

theorem sound_buildSlice (hty : TyOk P ty) (h : Rel x σ ρ a w) {t : TypeId} {len : Nat} {parts : Array (Nat × Operand)} {d : Nat} (ho : o.op = .buildSlice t len parts) (hdst : o.dst = some d) (hd : d < a.tmps.size) (hs : eff ty o σ K) : EffOk P x a w o K := by
  simp only [eff, ho, hdst] at hs
  split at hs
  · rename_i e ks' by' hl
    obtain ⟨i, ds, hi, hu, _, _, _, hsh⟩ := tdB.info (hty.get hl)
    obtain rfl := shB.slice hsh
    split at hs
    · rename_i td hle
      obtain ⟨hno, hpr, hsmall, hpos, hs⟩ := hs
      obtain ⟨ie, de, hie, hue, hsz, hby, ⟨zv, hzv, hzs, _⟩, _⟩ := tdB.info (hty.get hle)
      have hzl : zv.cells.size = td.ks.length := by have := (zeros_rd (w := w) (S := fun _ => True) hzs).1; simpa using this
      have hvs : All2 (VRel w (x.U σ.ob ρ) σ.ob ρ) (parts.toList.map fun p => a.eval p.2) (parts.toList.map fun p => ev σ p.2) := by
        refine ⟨by simp, fun j u V hu hV => ?_⟩
        simp only [List.getElem?_map, Option.map_eq_some_iff] at hu hV
        obtain ⟨p, hp, rfl⟩ := hu
        obtain ⟨p', hp', rfl⟩ := hV
        rw [hp] at hp'; cases hp'
        exact ev_rel h p.2
      obtain ⟨rows, hK, hrl, hks, hcsz, hx⟩ := rowsOf_sound h.one hs hvs
      have hlen : parts.toList.length = len := by have := congrArg List.length hpr; simpa using this
      have hparts : (parts.map fun (i, v) => (i, a.eval v)).toList = ((parts.toList.map fun p => a.eval p.2).zipIdx 0).map fun y => (y.2, y.1) := by
        rw [Array.toList_map]
        apply List.ext_getElem?
        intro j
        simp only [List.getElem?_map, List.getElem?_zipIdx]
        cases hj : parts.toList[j]? with
        | none => simp
        | some p =>
          have h1 : (parts.toList.map (·.1))[j]? = some p.1 := by simp [List.getElem?_map, hj]
          rw [hpr] at h1
          have := (List.getElem?_eq_some_iff.1 h1)
          obtain ⟨hjl, hje⟩ := this
          simp at hje
          simp [hje]
      have hfl : (parts.toList.map fun p => a.eval p.2).length * td.ks.length = len * td.ks.length := by rw [List.length_map, hlen]
      have hflat : ((parts.toList.map fun p => a.eval p.2).flatMap fun v => v.cells.toList).length = len * td.ks.length := by
        rw [hx.1, flatten_len (kd_len hks), hrl, List.length_map, hlen]
      have hrun : (Instr.buildSlice t len (parts.map fun (i, v) => (i, a.eval v))).run P w = .ok (.slice (some ⟨w.heap.size, 0, none⟩) len len) (w.alloc (.cells ((parts.toList.map fun p => a.eval p.2).flatMap fun v => v.cells.toList).toArray e)) := by
        by_cases h0 : len = 0
        · subst h0
          have hpe : parts = #[] := by
            apply Array.ext'; exact List.eq_nil_of_length_eq_zero hlen
          subst hpe
          have e0 : (Array.range 0) = #[] := rfl
          simp [Instr.buildSlice, run_underlying hu, sizeOf, typeInfo, hie, Instr.fill, newRow, e0]
        · refine run_buildSlice w t e len _ _ ie zv hu hie hzv (by rw [hsz]; omega) (by rw [hsz]; exact Nat.mul_ne_zero h0 (by omega)) ?_
          rw [hparts, hsz]
          exact Go.Great.fill_whole hpos _ _ hcsz (by rw [hfl]; simp)
      refine ⟨_, upd ρ d (.slice (some ⟨w.heap.size, 0, none⟩) len len), w.alloc (.cells ((parts.toList.map fun p => a.eval p.2).flatMap fun v => v.cells.toList).toArray e), hK, fun _ => Ext.alloc w NoM _ e, .inl ⟨.slice (some ⟨w.heap.size, 0, none⟩) len len, ?_, ?_⟩⟩
      · unfold execOp; rw [ho]
        simp only [Sem.run_bind, hrun, Result.andThen_ok, Sem.run_pure]
      · rw [hdst]
        refine new_row (xs := (parts.toList.map fun p => a.eval p.2).flatMap fun v => v.cells.toList) h hno hd (Ext.alloc w NoM _ e) (heap_new w _) (by rw [hrl, List.length_map, hlen]) (Nat.le_refl _) ?_ ?_ ?_ hks (hx.mono fun _ _ h => h.2)
        · unfold maxLen
          have : len * 1 ≤ len * td.ks.length := Nat.mul_le_mul_left _ hpos
          omega
        · simpa using hflat
        · rw [List.take_of_length_le]
          simpa using Nat.le_of_eq hflat
    · exact hs.elim
  · exact hs.elim
end
end Go.Vq
